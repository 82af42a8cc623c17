/- More kinds of operations: calls, strings, slices, arrays of a literal, what a function gives back. It speaks of no program. -/
import Derived.Test.YtbjdadekheoebaaOps
set_option linter.all false
set_option linter.unusedVariables false
set_option linter.unusedSimpArgs false
set_option linter.unusedSectionVars false
set_option linter.unnecessarySimpa false
namespace Go.Proofs.Ytbjdadekheoebaa
open Go.RowKit Go.Lib

section
variable {P : Program} {s : World} {n : Nat} {o : Oper} {e : Env} {l : List HP}

/-! ### calls -/
/-- The parts l, in another order, are pre and rest. -/
def Splits (l : List HP) (js : List Nat) (pre rest : List HP) : Prop := permB js = true ∧ l.length = js.length ∧ sel l js = pre ++ rest

theorem run_callFunc {f : FuncId} {fn : Func} {args : Array Value} {w : World} (hf : P.funcs[f]? = some fn) (hn : (fn.name == "runtime.NumGoroutine") = false) (hb : fn.body.isNone = false) : (callFunc f args).run P w = .ok (.enter f args) w := by
  have hp : ∀ w : World, (program).run P w = .ok P w := fun w => rfl
  simp only [callFunc, Sem.run_bind, hp, Result.andThen, hf, hn, hb, Bool.false_eq_true, if_false, Sem.run_pure]

theorem oe_calls {α : Type} {f : FuncId} {vs : List Value} {pre rest : List HP} {V : α → Value} {C : α → List HP} {js : List Nat} (hex : ∀ a w, Fr n e a → (execOp a.eval o).run P w = .ok (.enter f vs.toArray) w)
    (hs : Spec P f vs pre V C) (hj : Splits l js pre rest) : OpE P s n o e l (fun v w' => ∃ x, v = V x ∧ St s (C x ++ rest) w') := fun a w K Q hf hw hK => by
  unfold Oper.wp
  rw [hex a w hf]
  have h1 : Sat (pre ++ rest) (hl w) := hj.2.2 ▸ Sat.order js hj.1 hj.2.1 hw.sat
  have h2 : Sat (pre ++ [sep rest]) (hl w) := by
    have : Sat (rest ++ pre) (hl w) := Sat.perm List.perm_append_comm h1
    exact Sat.perm (List.perm_append_comm (l₁ := [sep rest])) (Sat.pack rest this)
  refine Calls.mono (hs (sep rest) s w ⟨h2, hw.os, hw.tape, hw.output⟩) fun en w' ⟨x, he, hw'⟩ => ?_
  subst he
  refine hK _ _ ⟨x, rfl, hw'.mono fun h => ?_⟩
  have h3 : Sat (sep rest :: C x) (hl w') := Sat.perm (List.perm_append_comm (l₂ := [sep rest])) h
  exact Sat.perm List.perm_append_comm (Sat.flat h3)

theorem oe_call {α : Type} {f : FuncId} {fn : Func} {c : Call} {vs : List Value} {pre rest : List HP} {V : α → Value} {C : α → List HP} {js : List Nat} (ho : o.op = .call c) (hc : c.callee = .value (.func f)) (ha : opvs e c.args.toList = some vs)
    (hf : P.funcs[f]? = some fn) (hn : (fn.name == "runtime.NumGoroutine") = false) (hb : fn.body.isNone = false)
    (hs : Spec P f vs pre V C) (hj : Splits l js pre rest) : OpE P s n o e l (fun v w' => ∃ x, v = V x ∧ St s (C x ++ rest) w') := oe_calls (fun a w hfr => by
  have hargs : c.args.map a.eval = vs.toArray := by rw [← hfr.opvs ha, ← Array.toList_map, Array.toArray_toList]
  simp only [execOp, ho, resolve, hc, hargs, Act.eval, Deferred.ofValue, Sem.run_bind, Sem.run_pure, Result.andThen, invoke, Array.empty_append, Array.append_empty, run_callFunc hf hn hb]) hs hj

/-- a function value's call: what it was bound to comes first, what it has captured last -/
theorem oe_callv {α : Type} {f : FuncId} {fn : Func} {c : Call} {x : Operand} {fs cs : Array Value} {us vs : List Value} {pre rest : List HP} {V : α → Value} {C : α → List HP} {js : List Nat} (ho : o.op = .call c) (hc : c.callee = .value x) (hx : opv e x = some (.func (.func f) fs cs)) (ha : opvs e c.args.toList = some us)
    (hvs : fs.toList ++ us ++ cs.toList = vs) (hf : P.funcs[f]? = some fn) (hn : (fn.name == "runtime.NumGoroutine") = false) (hb : fn.body.isNone = false)
    (hs : Spec P f vs pre V C) (hj : Splits l js pre rest) : OpE P s n o e l (fun v w' => ∃ x, v = V x ∧ St s (C x ++ rest) w') := oe_calls (fun a w hfr => by
  have hargs : c.args.map a.eval = us.toArray := by rw [← hfr.opvs ha, ← Array.toList_map, Array.toArray_toList]
  have hv : fs ++ us.toArray ++ cs = vs.toArray := by rw [← hvs]; simp
  simp only [execOp, ho, resolve, hc, hargs, hfr.opv hx, Deferred.ofValue, Sem.run_bind, Sem.run_pure, Result.andThen, invoke, hv, run_callFunc hf hn hb]) hs hj

/-! ### a function's proof -/
def envOf : Nat → List Value → Env
  | _, [] => []
  | i, v :: vs => (i, v) :: envOf (i + 1) vs
theorem envOf_at {v : Value} : ∀ {i : Nat} {vs : List Value} {t : Nat}, look (envOf i vs) t = some v → i ≤ t ∧ vs[t - i]? = some v
  | i, [], t, h => by cases h
  | i, u :: vs, t, h => by
    simp only [envOf, look] at h
    by_cases hit : i = t
    · subst hit; simp at h; subst h; simp
    · have h' : (i == t) = false := by simpa using hit
      rw [h'] at h
      obtain ⟨h1, h2⟩ := envOf_at h
      refine ⟨by omega, ?_⟩
      have e1 : t - i = (t - (i + 1)) + 1 := by omega
      rw [e1]; simpa using h2

theorem spec_of {α : Type} {f : FuncId} {fn : Func} {c : Code} {args : List Value} {pre : List HP} {V : α → Value} {C : α → List HP} {m : Nat} (hf : P.funcs[f]? = some fn) (hb : fn.body = some c) (hm : fn.ntmps = m) (hn : Nat.ble args.length m = true)
    (h : ∀ (F : HP) (s : World), CJ P s c (bodyPost P fn (fun e w' => ∃ x, e = .returned (V x) ∧ St s (C x ++ [F]) w')) m (envOf 0 args) (pre ++ [F])) : Spec P f args pre V C := fun F s w hw => by
  have hn' : args.length ≤ m := by simpa using hn
  refine calls_of_wp hf hb (h F s _ _ ⟨?_, rfl, ?_⟩ hw)
  · simp; omega
  · intro t v hv
    obtain ⟨_, h2⟩ := envOf_at hv
    rw [Nat.sub_zero] at h2
    have hlt : t < args.length := (List.getElem?_eq_some_iff.1 h2).1
    rw [Array.getElem?_append_left (by simpa using hlt)]
    simpa using h2

def resOne (tmps : Array Value) : ResultVar → Sem Value
  | .tmp t => pure (tmps.getD t undef)
  | .cell a t => do loadVar t (← asAddr (tmps.getD a undef))
theorem results_eq (fn : Func) (tmps : Array Value) : results fn tmps = (do let vs ← fn.results.mapM (resOne tmps); pure (if h : vs.size = 1 then vs[0] else .tuple vs)) := by
  unfold results
  congr 1
theorem run_resOnes {a : Act} {w : World} (hf : Fr n e a) : ∀ (rs : List ResultVar) (vs : List Value), resv e rs = some vs → (rs.mapM (resOne a.tmps)).run P w = .ok vs w
  | [], vs, h => by simp [resv] at h; subst h; simp [pure]
  | r :: rs, vs, h => by
    cases r with
    | cell x y => simp [resv] at h
    | tmp t =>
      simp only [resv] at h
      cases h1 : look e t with
      | none => simp [h1] at h
      | some v =>
        cases h2 : resv e rs with
        | none => simp [h1, h2] at h
        | some us =>
          simp [h1, h2] at h; subst h
          have := hf.at_ t v h1
          simp only [List.mapM_cons, Sem.run_bind, resOne, Sem.run_pure, Result.andThen, run_resOnes hf rs us h2]
          simp [this]
theorem run_results {fn : Func} {vs : List Value} {a : Act} {w : World} (hf : Fr n e a) (hr : resv e fn.results.toList = some vs) : (results fn a.tmps).run P w = .ok (oneOf vs) w := by
  rw [results_eq, Sem.run_bind, Array.mapM_eq_mapM_toList, Sem.run_map, run_resOnes hf _ _ hr]
  simp only [Result.andThen, Sem.run_pure]
  congr 1
  match vs with
  | [] => simp [oneOf]
  | [v] => simp [oneOf]
  | u :: v :: r => simp [oneOf]

theorem xj_ret {α : Type} {fn : Func} {V : α → Value} {C : α → List HP} {F : HP} {vs : List Value} (x : α) (hr : resv e fn.results.toList = some vs) (hv : oneOf vs = V x) (hs : ∀ h, Sat l h → Sat (C x ++ [F]) h) :
    XJ s (bodyPost P fn (fun e w' => ∃ x, e = .returned (V x) ∧ St s (C x ++ [F]) w')) .ret n e l := fun _ _ hf hw => ⟨hf.defers, _, run_results hf hr, x, by rw [hv], hw.mono (hs _)⟩
theorem xj_end {α : Type} {fn : Func} {V : α → Value} {C : α → List HP} {F : HP} {vs : List Value} (x : α) (hr : resv e fn.results.toList = some vs) (hv : oneOf vs = V x) (hs : ∀ h, Sat l h → Sat (C x ++ [F]) h) :
    XJ s (bodyPost P fn (fun e w' => ∃ x, e = .returned (V x) ∧ St s (C x ++ [F]) w')) .normal n e l := fun _ _ hf hw => ⟨hf.defers, _, run_results hf hr, x, by rw [hv], hw.mono (hs _)⟩

/-- reorder the parts -/
theorem sat_js {l l' : List HP} (js : List Nat) (hp : permB js = true) (hn : l.length = js.length) (he : sel l js = l') : ∀ h, Sat l h → Sat l' h := fun _ hs => he ▸ Sat.order js hp hn hs
/-- some of the parts, in an order -/
theorem sat_sub {l l' : List HP} (js : List Nat) (ks : List Nat) (hp : permB (js ++ ks) = true) (hn : l.length = (js ++ ks).length) (he : sel l js = l') : ∀ h, Sat l h → Sat l' h := fun _ hs => by
  have h1 := Sat.order (js ++ ks) hp hn hs
  have h2 : ∀ a b : List Nat, sel l (a ++ b) = sel l a ++ sel l b := by
    intro a b; induction a with
    | nil => rfl
    | cons i r ih => simp [sel, ih]
  rw [h2] at h1
  exact he ▸ Sat.firsts _ h1

/-! ### strings -/
theorem ov_concat {T T' : TypeId} {x y : Operand} {p q : ByteArray} (ho : o.op = .binOp .add T x y T') (hx : opv e x = some (.string p)) (hy : opv e y = some (.string q)) (h : p.size + q.size ≤ 9223372036854775807) :
    OpV P n o e l (.string (p ++ q)) := ov_bin ho hx hy (eqGuard_at_string _ _ _ _ _ _) fun w => by
  have h' : ¬ (((p.size + q.size : Nat) : Int) > IntKind.i64.max) := by simp only [IntKind.max_i64]; omega
  show (Op.stringOp .add p q).run P w = _
  simp only [Op.stringOp, h', if_false, Sem.run_pure]
theorem ov_index {T : TypeId} {x y : Operand} {p : ByteArray} {k : IntKind} {i : Int} {c : UInt8} (ho : o.op = .index T x y) (hx : opv e x = some (.string p)) (hy : opv e y = some (.int k i)) (hT : P.underlying T = some .string) (h0 : 0 ≤ i) (hc : p.data.toList[i.toNat]? = some c) :
    OpV P n o e l (.int .u8 c.toNat) := fun a w hf _ => by
  have hc' : p[i.toNat]? = some c := by
    have h1 : i.toNat < p.data.toList.length := (List.getElem?_eq_some_iff.1 hc).1
    have h2 : i.toNat < p.size := by simpa using h1
    rw [getElem?_pos p i.toNat h2]
    have := (List.getElem?_eq_some_iff.1 hc).2
    rw [← this]; rfl
  simp only [execOp, ho, hf.opv hx, hf.opv hy, Instr.index, asIntOf, Sem.run_bind, Sem.run_pure, Result.andThen, run_underlying hT, h0, if_true, hc']
theorem ov_sliceS {T : TypeId} {x : Operand} {lo hi : Option Operand} {p : ByteArray} {v : Value} {vl vh : Option Value} (ho : o.op = .slice T x lo hi none) (hx : opv e x = some (.string p)) (hT : P.underlying T = some .string)
    (hl : lo.map (opv e) = vl.map some) (hh : hi.map (opv e) = vh.map some) (hr : ∀ w, (Instr.slice T (.string p) vl vh none).run P w = .ok v w) : OpV P n o e l v := fun a w hf _ => by
  have h1 : lo.map a.eval = vl := by
    cases lo with
    | none => cases vl <;> simp_all
    | some y => cases vl with
      | none => simp at hl
      | some u => simp at hl; simp [hf.opv hl]
  have h2 : hi.map a.eval = vh := by
    cases hi with
    | none => cases vh <;> simp_all
    | some y => cases vh with
      | none => simp at hh
      | some u => simp at hh; simp [hf.opv hh]
  simp only [execOp, ho, hf.opv hx, Instr.sliceAt, Sem.run_bind, run_underlying hT, Result.andThen, h1, h2, Option.map_none, hr, Sem.run_pure]
theorem run_sliceS {T : TypeId} {p : ByteArray} {vl vh : Option Value} {i j : Nat} {w : World} (hT : P.underlying T = some .string) (hl : (match vl with | some (.int _ a) => a = (i : Int) | none => i = 0 | _ => False)) (hh : (match vh with | some (.int _ b) => b = (j : Int) | none => j = p.size | _ => False)) (h1 : i ≤ j) (h2 : j ≤ p.size) :
    (Instr.slice T (.string p) vl vh none).run P w = .ok (.string (p.extract i j)) w := by
  simp only [Instr.slice, Sem.run_bind, run_underlying hT, Result.andThen]
  have e1 : (Instr.sliceBounds false p.size p.size vl vh none).run P w = .ok (i, j, p.size) w := by
    simp only [Instr.sliceBounds, Sem.run_bind, Sem.run_pure, Result.andThen]
    match vl, vh, hl, hh with
    | none, none, hl, hh => subst hl; subst hh; simp
    | none, some (.int k b), hl, hh => subst hl; subst hh; simp [run_sliceBound w k _ _ _ (by omega) (by omega : (j : Int) ≤ (p.size : Int)), Result.andThen]
    | some (.int k a), none, hl, hh => subst hl; subst hh; simp [run_sliceBound w k _ _ _ (by omega) (by omega : (i : Int) ≤ (p.size : Int)), Result.andThen]
    | some (.int k a), some (.int k' b), hl, hh => subst hl; subst hh; simp [run_sliceBound w k' _ _ _ (by omega) (by omega : (j : Int) ≤ (p.size : Int)), run_sliceBound w k _ _ _ (by omega) (by omega : (i : Int) ≤ (j : Int)), Result.andThen]
  simp [e1]

/-! ### slices -/
theorem ov_indexAddr {T E size : Nat} {x y : Operand} {g off m c : Nat} {k : IntKind} {i : Int} (ho : o.op = .indexAddr T x y) (hx : opv e x = some (.slice (some ⟨g, off, none⟩) m c)) (hy : opv e y = some (.int k i)) (hT : P.underlying T = some (.slice E)) (hE : ∃ inf, P.info? E = some inf ∧ inf.size = size) (h0 : 0 ≤ i) (h1 : i < m) :
    OpV P n o e l (.pointer (some ⟨g, off + i.toNat * size, none⟩)) := fun a w hf _ => by
  obtain ⟨inf, h2, h3⟩ := hE
  have hi : P.elem T = E := by simp [Program.elem, hT]
  simp only [execOp, ho, hf.opv hx, hf.opv hy, Sem.run_bind, Sem.run_pure, run_indexAt_slice w T _ m c k i (by rw [hi]; exact hT), h0, h1, and_self, if_true, hi, Go.sizeOf, run_typeInfo' h2, Result.andThen, h3]
  simp [Addr.add_lit]


/-- the cells of a literal's block -/
theorem cells_of_pts {i b : Nat} {c : Array Value} {T : TypeId} {fz : Nat × Nat} {news : List Value} (hi : l[i]? = some (pts b (.cells c T fz))) (hc : c.toList = news) {w : World} (hs : Sat l (hl w)) : ∀ j u, news[j]? = some u → w.cell? ((⟨b, 0, none⟩ : Addr).add j) = some u := fun j u hu => by
  rw [Addr.add_lit]
  refine cell_of_rd (rd_pts hi ?_) hs
  rw [← hc] at hu; simpa using hu

def zrow (zs : List Value) : Nat → List Value
  | 0 => []
  | k + 1 => zs ++ zrow zs k
theorem zrow_length (zs : List Value) : ∀ k, (zrow zs k).length = k * zs.length
  | 0 => by simp [zrow]
  | k + 1 => by simp [zrow, zrow_length zs k, Nat.add_mul, Nat.add_comm]
theorem zrow_at (zs : List Value) (hz : 0 < zs.length) : ∀ (k i : Nat), i < k * zs.length → (zrow zs k)[i]? = zs[i % zs.length]?
  | 0, i, h => by simp at h
  | k + 1, i, h => by
    simp only [zrow]
    by_cases hi : i < zs.length
    · rw [List.getElem?_append_left hi, Nat.mod_eq_of_lt hi]
    · rw [List.getElem?_append_right (by omega), zrow_at zs hz k (i - zs.length) (by rw [Nat.add_mul] at h; omega)]
      congr 1
      rw [← Nat.mod_eq_sub_mod (by omega)]
theorem zrow_eq (zs : Array Value) (hz : 0 < zs.size) (k : Nat) : (Array.range (k * zs.size)).map (zs[· % zs.size]!) = (zrow zs.toList k).toArray := by
  apply Array.ext'
  apply List.ext_getElem?
  intro i
  have hl : zs.toList.length = zs.size := by simp
  by_cases hi : i < k * zs.size
  · have h1 := zrow_at zs.toList (by rw [hl]; exact hz) k i (by rw [hl]; exact hi)
    simp only [hl] at h1
    rw [h1]
    have h2 : i % zs.size < zs.size := Nat.mod_lt _ hz
    simp [hi, h2]
  · have h1 := zrow_length zs.toList k
    rw [List.getElem?_eq_none (by simp; omega), List.getElem?_eq_none (by simp [h1]; omega)]

theorem oe_buildSlice {T E size bytes k : Nat} {parts : Array (Nat × Operand)} {z : Value} {vs : List Value} {cells : Array Value} (ho : o.op = .buildSlice T k parts) (hT : Elem P T E size bytes) (hz : Zero P E z)
    (hv : opvs e (parts.toList.map (·.2)) = some vs) (hsz : z.cells.size = size) (hk : Nat.ble (k * size) 200 = true)
    (hc' : Instr.fill (fun i => some (i * size, size)) (zrow z.cells.toList k).toArray ((parts.toList.map (·.1)).zip vs) = some cells) :
    OpE P s n o e l (fun u w' => ∃ b : Nat, u = .slice (some ⟨b, 0, none⟩) k k ∧ St s (pts b (.cells cells E (0, 0)) :: l) w') := oe_some fun a w hf hs => by
  obtain ⟨inf, z', i1, i2, i3, i4, i5⟩ := hT.info
  obtain ⟨inf', j1, j2⟩ := hz
  obtain rfl : inf = inf' := by rw [i1] at j1; exact Option.some.inj j1
  obtain rfl : z' = z := by rw [i2] at j2; exact Option.some.inj j2
  have hparts : (parts.map fun (i, x) => (i, a.eval x)).toList = (parts.toList.map (·.1)).zip vs := by
    rw [← hf.opvs hv, Array.toList_map, List.map_map, List.zip_map']; rfl
  refine ⟨_, w.alloc (.cells cells E), ?_, w.heap.size, rfl, hs.alloc _⟩
  have hk' : k * size ≤ 200 := Nat.le_of_ble_eq_true hk
  have hbig : ¬ (k * size > 2 ^ 24) := by omega
  have hc : Instr.fill (fun i => some (i * size, size)) ((Array.range (k * size)).map (z'.cells[· % z'.cells.size]!)) ((parts.toList.map (·.1)).zip vs) = some cells := by
    rw [← hc', ← zrow_eq _ (by rw [hsz]; exact hT.pos)]
    rw [hsz]
  have hz1 : (zeroValue E).run P w = .ok z' w := by simp [zeroValue, run_typeInfo' i1, Result.andThen, i2]
  by_cases h0 : k * size = 0
  · rw [h0] at hc
    have hc2 : ∀ zero : Array Value, Instr.fill (fun i => some (i * size, size)) ((Array.range 0).map (zero[· % zero.size]!)) ((parts.toList.map (·.1)).zip vs) = some cells := fun zero => by
      have e0 : ∀ f : Nat → Value, (Array.range 0).map f = #[] := fun f => by rw [Array.range_zero']; simp
      rw [e0] at hc ⊢; exact hc
    simp only [execOp, ho, Instr.buildSlice, Sem.run_bind, run_underlying hT.sl, Result.andThen, Go.sizeOf, run_typeInfo' i1, Sem.run_pure, i3, h0, if_true, hparts, hc2, newRow, newObj]
    rfl
  · simp only [execOp, ho, Instr.buildSlice, Sem.run_bind, run_underlying hT.sl, Result.andThen, Go.sizeOf, run_typeInfo' i1, Sem.run_pure, i3, hbig, if_false, h0, hz1, hparts, hc, newRow, newObj, Sem.run]
    rfl

/-- a whole struct is stored -/
theorem run_storeCells_lit {E : TypeId} {b : Nat} : ∀ (vs : List Value) (i off : Nat) (c : Array Value) (w : World), w.heap[b]? = some (.cells c E (0, 0)) → off + i + vs.length ≤ c.size → (∀ v ∈ vs, v.oneCell' = true) →
    ∃ w', (storeCells ⟨b, off, none⟩ vs i).run P w = .ok () w' ∧ hl w' = (hl w).put b (.cells (vs.zipIdx.foldl (fun c (v, j) => c.setIfInBounds (off + i + j) v) c) E (0, 0)) ∧ w'.os = w.os ∧ w'.tape = w.tape ∧ w'.output = w.output
  | [], i, off, c, w, hb, _, _ => ⟨w, rfl, by funext x; simp only [hl, HL.put, List.zipIdx_nil, List.foldl_nil]; split <;> simp_all, rfl, rfl, rfl⟩
  | v :: vs, i, off, c, w, hb, hle, h1 => by
    simp only [List.length_cons] at hle
    have hst := run_store1 (P := P) hb (off := off + i) (by omega) (h1 v (by simp))
    have hb' : (w.setCell ⟨b, off + i, none⟩ v).heap[b]? = some (.cells (c.setIfInBounds (off + i) v) E (0, 0)) := by
      have := congrFun (hl_setCell w b (off + i) v c E (0, 0) hb) b
      simpa [hl, HL.put] using this
    obtain ⟨w', h2, h3, h4, h5, h6⟩ := run_storeCells_lit vs (i + 1) off (c.setIfInBounds (off + i) v) _ hb' (by simp; omega) (fun u hu => h1 u (by simp [hu]))
    refine ⟨w', ?_, ?_, h4, h5, h6⟩
    · simp only [storeCells, Sem.run_bind, Addr.add_lit, hst, Result.andThen, h2]
    · rw [h3, hl_setCell w b (off + i) v c E (0, 0) hb]
      funext x
      simp only [HL.put]
      split
      · congr 2
        simp only [List.zipIdx_cons, List.foldl_cons, Nat.add_zero, Nat.zero_add]
        rw [List.zipIdx_succ, List.foldl_map]
        congr 1
        funext c p
        rw [show off + (i + 1) + p.2 = off + i + (p.2 + 1) by omega]
      · rfl
theorem oe_storen {T : TypeId} {x y : Operand} {b off i : Nat} {vs : List Value} {c : Array Value} {E : TypeId} (ho : o.op = .store T x y) (hx : opv e x = some (.pointer (some ⟨b, off, none⟩))) (hy : opv e y = some (.agg vs.toArray)) (h1 : Agg P T vs.length)
    (hi : l[i]? = some (pts b (.cells c E (0, 0)))) (hoff' : Nat.ble (off + vs.length) c.size = true) (hv : ∀ v ∈ vs, v.oneCell' = true) :
    OpE P s n o e l (fun u w' => ∃ _ : Unit, u = undef ∧ St s (l.set i (pts b (.cells (vs.zipIdx.foldl (fun c (v, j) => c.setIfInBounds (off + j) v) c) E (0, 0)))) w') := oe_unit fun a w hf hs => by
  have hb : w.heap[b]? = some (.cells c E (0, 0)) := Sat.pts_at hi hs.sat
  have hoff : off + vs.length ≤ c.size := Nat.le_of_ble_eq_true hoff'
  obtain ⟨w', h2, h3, h4, h5, h6⟩ := run_storeCells_lit (P := P) vs 0 off c w hb (by omega) hv
  refine ⟨w', ?_, (), rfl, hs.put ?_ h4 h5 h6⟩
  · simp only [execOp, ho, hf.opv hx, hf.opv hy, Instr.storeAt, Instr.sureAddr, storeVar, Sem.run_bind, Sem.run_pure, Result.andThen, h1.sizeOf, Value.cells, List.size_toArray, ne_eq, not_true_eq_false, if_false, h2]
  · rw [h3]; exact Sat.write hi hs.sat

end
end Go.Proofs.Ytbjdadekheoebaa
