/- Still more kinds of operations: parts of slices, places in a slice's own row, fields of structs by value. It speaks of no program. -/
import Derived.Test.YtbjdadekheoebaaMaps
import Derived.Lib.SliceRun
set_option linter.all false
set_option linter.unusedVariables false
set_option linter.unusedSimpArgs false
set_option linter.unusedSectionVars false
set_option linter.unnecessarySimpa false
namespace Go.Proofs.Ytbjdadekheoebaa
open Go.RowKit Go.Lib

section
variable {P : Program} {s : World} {n : Nat} {o : Oper} {e : Env} {l : List HP}

/-! ### parts of a slice -/
def cutAt (a : Option Addr) (c i size : Nat) : Option Addr := if c = i then a else a.map (·.add (i * size))
/-- a bound of a part: it is i; or there is none, and d is i -/
def bnd (v : Option Value) (d i : Nat) : Prop := match v with | some (.int _ z) => z = (i : Int) | none => i = d | _ => False
theorem run_cut {T E size : Nat} {a : Option Addr} {k c i j : Nat} {vl vh : Option Value} {w : World} (hT : P.underlying T = some (.slice E)) (hE : ∃ inf, P.info? E = some inf ∧ inf.size = size)
    (hl : bnd vl 0 i) (hh : bnd vh k j) (h1 : i ≤ j) (h2 : j ≤ c) :
    (Instr.slice T (.slice a k c) vl vh none).run P w = .ok (.slice (cutAt a c i size) (j - i) (c - i)) w := by
  obtain ⟨inf, g1, g2⟩ := hE
  simp only [Instr.slice, Sem.run_bind, run_underlying hT, Result.andThen]
  have e1 : (Instr.sliceBounds true k c vl vh none).run P w = .ok (i, j, c) w := by
    unfold bnd at hl hh
    simp only [Instr.sliceBounds, Sem.run_bind, Sem.run_pure, Result.andThen]
    match vl, vh, hl, hh with
    | none, none, hl, hh => subst hl; subst hh; simp
    | none, some (.int q b), hl, hh => subst hl; subst hh; simp [run_sliceBound w q _ _ _ (by omega) (by omega : (j : Int) ≤ (c : Int)), Result.andThen]
    | some (.int q b), none, hl, hh => subst hl; subst hh; simp [run_sliceBound w q _ _ _ (by omega) (by omega : (i : Int) ≤ (j : Int)), Result.andThen]
    | some (.int q b), some (.int q' b'), hl, hh => subst hl; subst hh; simp [run_sliceBound w q' _ _ _ (by omega) (by omega : (j : Int) ≤ (c : Int)), run_sliceBound w q _ _ _ (by omega) (by omega : (i : Int) ≤ (j : Int)), Result.andThen]
  simp only [e1, Go.sizeOf, run_typeInfo' g1, Result.andThen, Sem.run_bind, Sem.run_pure, g2, cutAt]
theorem ov_cut {T E size : Nat} {x : Operand} {lo hi : Option Operand} {a : Option Addr} {k c i j : Nat} {vl vh : Option Value} (ho : o.op = .slice T x lo hi none) (hx : opv e x = some (.slice a k c)) (hT : P.underlying T = some (.slice E)) (hE : ∃ inf, P.info? E = some inf ∧ inf.size = size)
    (hl : lo.map (opv e) = vl.map some) (hh : hi.map (opv e) = vh.map some)
    (hl' : bnd vl 0 i) (hh' : bnd vh k j) (h1 : i ≤ j) (h2 : j ≤ c) :
    OpV P n o e l (.slice (cutAt a c i size) (j - i) (c - i)) := fun ac w hf _ => by
  have g1 : lo.map ac.eval = vl := by
    cases lo with
    | none => cases vl <;> simp_all
    | some y => cases vl with
      | none => simp at hl
      | some u => simp at hl; simp [hf.opv hl]
  have g2 : hi.map ac.eval = vh := by
    cases hi with
    | none => cases vh <;> simp_all
    | some y => cases vh with
      | none => simp at hh
      | some u => simp at hh; simp [hf.opv hh]
  simp only [execOp, ho, hf.opv hx, Instr.sliceAt, Sem.run_bind, run_underlying hT, Result.andThen, g1, g2, Option.map_none, run_cut hT hE hl' hh' h1 h2, Sem.run_pure]
theorem cutAt_0 {a : Option Addr} {c size : Nat} (ha : ∀ ad, a = some ad → ∃ g off, ad = ⟨g, off, none⟩) : cutAt a c 0 size = a := by
  unfold cutAt; split
  · rfl
  · cases a with
    | none => rfl
    | some ad => obtain ⟨g, off, rfl⟩ := ha ad rfl; simp [Addr.add_lit]
theorem cutAt_some {g off c i size : Nat} (h : c ≠ i) : cutAt (some ⟨g, off, none⟩) c i size = some ⟨g, off + i * size, none⟩ := by
  simp [cutAt, h, Addr.add_lit]
theorem cutAt_some0 {g off c size : Nat} : cutAt (some ⟨g, off, none⟩) c 0 size = some ⟨g, off, none⟩ := cutAt_0 fun _ h => by cases h; exact ⟨_, _, rfl⟩

theorem ov_cap {c : Call} {x : Operand} {T E : TypeId} {p : Option Addr} {k m : Nat} (ho : o.op = .call c) (hc : c = { callee := .builtin .cap, args := #[x], argTypes := #[T] }) (hx : opv e x = some (.slice p k m)) (hT : P.underlying T = some (.slice E)) :
    OpV P n o e l (.int .i64 m) := fun a w hf _ => by
  subst hc
  simp [execOp, ho, resolve, invoke, builtin, hf.opv hx, Builtin.cap_, run_underlying hT, goInt, Result.andThen]

/-! ### places in a row -/
theorem sl_some {E k : Nat} {a : Option Addr} {m c : Nat} {xs : List Value} {h : HL} (hs : sl E k a m c xs h) (hm : 0 < m) : ∃ g, a = some ⟨g, 0, none⟩ := by
  rcases hs.2 with ⟨h1, _⟩ | ⟨g, cur, h1, _⟩
  · omega
  · exact ⟨g, h1⟩
theorem sl_le {E k : Nat} {a : Option Addr} {m c : Nat} {xs : List Value} {h : HL} (hs : sl E k a m c xs h) : m ≤ c ∧ c ≤ maxLen := by
  rcases hs.2 with ⟨h1, h2⟩ | ⟨g, cur, _, _, h3, h4, _⟩
  · subst h1; subst h2; simp [maxLen]
  · exact ⟨h3, h4⟩
theorem sl_addr {E k : Nat} {a : Option Addr} {m c : Nat} {xs : List Value} {h : HL} (hs : sl E k a m c xs h) : c = 0 ∨ ∃ g, a = some ⟨g, 0, none⟩ := by
  rcases hs.2 with ⟨_, h1⟩ | ⟨g, cur, h1, _⟩
  · exact .inl h1
  · exact .inr ⟨g, h1⟩
theorem sl_cells {E k g m c : Nat} {xs : List Value} {h : HL} (hs : sl E k (some ⟨g, 0, none⟩) m c xs h) (hm : 0 < m) : ∃ cur, h g = some (.cells cur E (0, 0)) ∧ m ≤ c ∧ c ≤ maxLen ∧ cur.size = c * k ∧ cur.toList.take (m * k) = xs := by
  rcases hs.2 with ⟨h1, _⟩ | ⟨g', cur, h1, h2⟩
  · omega
  · cases h1; exact ⟨cur, h2⟩
theorem rd_sl {i E k g m c off : Nat} {xs : List Value} {v : Value} (hi : l[i]? = some (sl E k (some ⟨g, 0, none⟩) m c xs)) (hc : xs[off]? = some v) : Rd l g off v := rd_of hi fun h hs => by
  have hm : 0 < m := by
    rcases Nat.eq_zero_or_pos m with rfl | h
    · have := hs.1; simp at this; subst this; simp at hc
    · exact h
  obtain ⟨cur, h2, _, _, _, h6⟩ := sl_cells hs hm
  refine ⟨cur, E, (0, 0), h2, ?_⟩
  rw [← h6, List.getElem?_take] at hc
  split at hc
  · simpa using hc
  · cases hc
theorem rds_sl {i E k g m c off : Nat} {xs cs : List Value} (hi : l[i]? = some (sl E k (some ⟨g, 0, none⟩) m c xs)) (hc : (xs.drop off).take cs.length = cs) : Rds l g off cs := fun j v hv => by
  refine rd_sl hi ?_
  rw [← hc, List.getElem?_take] at hv
  split at hv
  · rw [List.getElem?_drop] at hv; simpa using hv
  · cases hv
theorem rd_rs {i k g off m p : Nat} {xs : List Value} {v : Value} (hi : l[i]? = some (rs k (some ⟨g, off, none⟩) m xs)) (hc : xs[p]? = some v) : Rd l g (off + p) v := rd_of hi fun h hs => by
  have hm : 0 < m := by
    rcases Nat.eq_zero_or_pos m with rfl | h
    · have := hs.1; simp at this; subst this; simp at hc
    · exact h
  rcases hs.2 with h1 | ⟨g', off', cur, E, fz, h1, h2, h3⟩
  · omega
  · cases h1
    refine ⟨cur, E, fz, h2, ?_⟩
    rw [← h3, List.getElem?_take] at hc
    split at hc
    · simpa using hc
    · cases hc
theorem rds_rs {i k g off m p : Nat} {xs cs : List Value} (hi : l[i]? = some (rs k (some ⟨g, off, none⟩) m xs)) (hc : (xs.drop p).take cs.length = cs) : Rds l g (off + p) cs := fun j v hv => by
  rw [Nat.add_assoc]
  refine rd_rs hi ?_
  rw [← hc, List.getElem?_take] at hv
  split at hv
  · rw [List.getElem?_drop] at hv; simpa using hv
  · cases hv
theorem flat_at {τ : Type} {enc : τ → List Value} {k : Nat} (hk : ∀ x, (enc x).length = k) : ∀ {qs : List τ} {i : Nat} {x : τ}, qs[i]? = some x → ((qs.flatMap enc).drop (i * k)).take k = enc x
  | [], _, _, h => by simp at h
  | q :: qs, 0, x, h => by simp at h; subst h; simp [← hk q]
  | q :: qs, i + 1, x, h => by
    simp only [List.getElem?_cons_succ] at h
    have e1 : (i + 1) * k = (enc q).length + i * k := by rw [hk, Nat.add_mul]; omega
    rw [List.flatMap_cons, e1, List.drop_length_add_append]
    exact flat_at hk h
theorem flat_len {τ : Type} {enc : τ → List Value} {k : Nat} (hk : ∀ x, (enc x).length = k) : ∀ qs : List τ, (qs.flatMap enc).length = qs.length * k
  | [] => by simp
  | q :: qs => by simp [flat_len hk qs, hk, Nat.add_mul, Nat.add_comm]

/-! ### writing into a row -/
def splice (xs : List Value) (off : Nat) (vs : List Value) : List Value := xs.take off ++ vs ++ xs.drop (off + vs.length)
theorem splice_length {xs : List Value} {off : Nat} {vs : List Value} (h : off + vs.length ≤ xs.length) : (splice xs off vs).length = xs.length := by
  simp only [splice, List.length_append, List.length_take, List.length_drop]; omega
theorem set_splice (xs : List Value) (off : Nat) (v : Value) (h : off < xs.length) : xs.set off v = splice xs off [v] := by
  simp only [splice, List.length_singleton]
  rw [List.set_eq_take_append_cons_drop, if_pos h]
  simp
theorem fold_set : ∀ (vs : List Value) (c : Array Value) (off : Nat), off + vs.length ≤ c.size → (vs.zipIdx.foldl (fun c (v, j) => c.setIfInBounds (off + j) v) c).toList = splice c.toList off vs
  | [], c, off, _ => by simp [splice]
  | v :: vs, c, off, h => by
    simp only [List.length_cons] at h
    have ih := fold_set vs (c.setIfInBounds off v) (off + 1) (by simp; omega)
    have e1 : (v :: vs).zipIdx.foldl (fun c (x : Value × Nat) => c.setIfInBounds (off + x.2) x.1) c = vs.zipIdx.foldl (fun c (x : Value × Nat) => c.setIfInBounds (off + 1 + x.2) x.1) (c.setIfInBounds off v) := by
      simp only [List.zipIdx_cons, List.foldl_cons, Nat.add_zero, Nat.zero_add]
      rw [List.zipIdx_succ, List.foldl_map]
      congr 1
      funext c p
      rw [show off + 1 + p.2 = off + (p.2 + 1) by omega]
    show (List.foldl (fun c (x : Value × Nat) => c.setIfInBounds (off + x.2) x.1) c (v :: vs).zipIdx).toList = _
    rw [e1]
    refine ih.trans ?_
    have h1 : off < c.toList.length := by simp; omega
    simp only [splice, Array.toList_setIfInBounds, List.length_cons]
    rw [List.set_eq_take_append_cons_drop, if_pos h1]
    have e2 : (c.toList.take off ++ v :: c.toList.drop (off + 1)).take (off + 1) = c.toList.take off ++ [v] := by
      rw [List.take_append, List.length_take, Nat.min_eq_left (by omega), List.take_of_length_le (by simp; omega)]
      simp [show off + 1 - off = 1 by omega]
    have e3 : (c.toList.take off ++ v :: c.toList.drop (off + 1)).drop (off + 1 + vs.length) = c.toList.drop (off + (vs.length + 1)) := by
      rw [List.drop_append, List.length_take, Nat.min_eq_left (by omega), List.drop_of_length_le (by simp; omega), show off + 1 + vs.length - off = vs.length + 1 by omega]
      simp only [List.nil_append, List.drop_succ_cons, List.drop_drop]
      congr 1; omega
    rw [e2, e3]; simp
theorem splice_take {xs : List Value} {off m : Nat} {vs : List Value} (h : off + vs.length ≤ m) (hm : m ≤ xs.length) : (splice xs off vs).take m = splice (xs.take m) off vs := by
  apply List.ext_getElem?
  intro i
  simp only [splice, List.append_assoc, List.getElem?_take, List.getElem?_append, List.length_take, List.getElem?_drop]
  rw [Nat.min_eq_left (by omega : off ≤ xs.length), Nat.min_eq_left (by omega : off ≤ min m xs.length)]
  by_cases h1 : i < off
  · have : i < m := by omega
    simp [h1, this]
  · by_cases h2 : i - off < vs.length
    · have : i < m := by omega
      simp [h1, h2, this]
    · simp only [h1, h2, if_false]
      have e1 : off + vs.length + (i - off - vs.length) = i := by omega
      rw [e1]

/-- Cells are written in a row of a slice's own. -/
theorem store_sl {E k g m c off : Nat} {xs vs : List Value} {w : World} {i : Nat} (hi : l[i]? = some (sl E k (some ⟨g, 0, none⟩) m c xs)) (hs : Sat l (hl w)) (h1 : ∀ v ∈ vs, v.oneCell' = true) (hle : off + vs.length ≤ m * k) (hm : 0 < m) :
    ∃ w', (storeCells ⟨g, off, none⟩ vs 0).run P w = .ok () w' ∧ Sat (l.set i (sl E k (some ⟨g, 0, none⟩) m c (splice xs off vs))) (hl w') ∧ w'.os = w.os ∧ w'.tape = w.tape ∧ w'.output = w.output := by
  obtain ⟨h', hle', hsl, hput⟩ := Sat.mutate (Sat.front hi hs)
  obtain ⟨cur, e1, e2, e3, e4, e5⟩ := sl_cells hsl hm
  have hb : w.heap[g]? = some (.cells cur E (0, 0)) := hle' _ _ e1
  have hmc : m * k ≤ cur.size := by rw [e4]; exact Nat.mul_le_mul_right k e2
  obtain ⟨w', r1, r2, r3, r4, r5⟩ := run_storeCells_lit (P := P) vs 0 off cur w hb (by omega) h1
  refine ⟨w', r1, ?_, r3, r4, r5⟩
  rw [r2]
  refine Sat.back hi (hput g _ _ _ e1 ⟨?_, .inr ⟨g, _, rfl, HL.put_at, e2, e3, ?_, ?_⟩⟩)
  · rw [splice_length (by rw [hsl.1]; exact hle)]; exact hsl.1
  · have := congrArg List.length (fold_set vs cur off (by omega))
    simp only [Nat.add_zero, Array.length_toList] at this ⊢
    rw [this, splice_length (by simp; omega)]; simpa using e4
  · simp only [Nat.add_zero]
    rw [fold_set vs cur off (by omega), splice_take hle (by simpa using hmc), e5]
theorem oe_store1_sl {T : TypeId} {x y : Operand} {g off i E k m c : Nat} {xs : List Value} {v : Value} (ho : o.op = .store T x y) (hx : opv e x = some (.pointer (some ⟨g, off, none⟩))) (hy : opv e y = some v) (h1 : One P T)
    (hi : l[i]? = some (sl E k (some ⟨g, 0, none⟩) m c xs)) (hv : v.oneCell' = true) (hoff : off < m * k) (hm : 0 < m) :
    OpE P s n o e l (fun u w' => ∃ _ : Unit, u = undef ∧ St s (l.set i (sl E k (some ⟨g, 0, none⟩) m c (splice xs off [v]))) w') := oe_unit fun a w hf hs => by
  have hcells : v.cells = #[v] := by cases v <;> first | rfl | (simp [Value.oneCell'] at hv)
  obtain ⟨w', r1, r2, r3, r4, r5⟩ := store_sl (P := P) (vs := [v]) (off := off) hi hs.sat (by simpa using hv) (by simp only [List.length_singleton]; omega) hm
  refine ⟨w', ?_, (), rfl, hs.put r2 r3 r4 r5⟩
  simp only [execOp, ho, hf.opv hx, hf.opv hy, Instr.storeAt, Instr.sureAddr, storeVar, Sem.run_bind, Sem.run_pure, Result.andThen, h1.sizeOf, hcells, List.size_toArray, List.length_cons, List.length_nil, Nat.zero_add, ne_eq, not_true_eq_false, if_false, r1]
theorem oe_storen_sl {T : TypeId} {x y : Operand} {g off i E k m c : Nat} {xs vs : List Value} (ho : o.op = .store T x y) (hx : opv e x = some (.pointer (some ⟨g, off, none⟩))) (hy : opv e y = some (.agg vs.toArray)) (h1 : Agg P T vs.length)
    (hi : l[i]? = some (sl E k (some ⟨g, 0, none⟩) m c xs)) (hv : ∀ v ∈ vs, v.oneCell' = true) (hoff : off + vs.length ≤ m * k) (hm : 0 < m) :
    OpE P s n o e l (fun u w' => ∃ _ : Unit, u = undef ∧ St s (l.set i (sl E k (some ⟨g, 0, none⟩) m c (splice xs off vs))) w') := oe_unit fun a w hf hs => by
  obtain ⟨w', r1, r2, r3, r4, r5⟩ := store_sl (P := P) hi hs.sat hv hoff hm
  refine ⟨w', ?_, (), rfl, hs.put r2 r3 r4 r5⟩
  simp only [execOp, ho, hf.opv hx, hf.opv hy, Instr.storeAt, Instr.sureAddr, storeVar, Sem.run_bind, Sem.run_pure, Result.andThen, h1.sizeOf, Value.cells, List.size_toArray, ne_eq, not_true_eq_false, if_false, r1]

/-- splice, an element at a time -/
theorem splice_flat {τ : Type} {enc : τ → List Value} {k : Nat} (hk : ∀ x, (enc x).length = k) : ∀ (qs : List τ) (i : Nat) (x : τ), i < qs.length → splice (qs.flatMap enc) (i * k) (enc x) = (qs.set i x).flatMap enc
  | [], i, _, h => by simp at h
  | q :: qs, 0, x, _ => by
    simp only [splice, Nat.zero_mul, List.take_zero, List.nil_append, Nat.zero_add, List.flatMap_cons, List.set_cons_zero, hk]
    rw [← hk q, List.drop_left]
  | q :: qs, i + 1, x, h => by
    have ih := splice_flat hk qs i x (by simpa using h)
    have e1 : (i + 1) * k = (enc q).length + i * k := by rw [hk, Nat.add_mul]; omega
    simp only [splice] at ih ⊢
    rw [List.flatMap_cons, e1, List.take_length_add_append, Nat.add_assoc, List.drop_length_add_append, List.set_cons_succ, List.flatMap_cons, ← ih]
    simp

/-- clear(s[i:]): the row's first i elements are left -/
theorem oe_clear {T E k : Nat} {x : Operand} {a : Option Addr} {m c j i : Nat} {xs : List Value} {z : Value} (ho : o.op = .call { callee := .builtin .clear, args := #[x], argTypes := #[T] }) (hx : opv e x = some (.slice (cutAt a c j k) (m - j) (c - j)))
    (hT : P.underlying T = some (.slice E)) (hz : Zero P E z) (hzk : z.cells.size = k) (hz1 : ∀ v ∈ z.cells.toList, v.oneCell' = true) (hi : l[i]? = some (sl E k a m c xs)) (hj : j ≤ m) (hk : 0 < k) :
    OpE P s n o e l (fun u w' => ∃ _ : Unit, u = .tuple #[] ∧ St s (l.set i (sl E k a j c (xs.take (j * k)))) w') := oe_ret fun ac w hf hs => by
  obtain ⟨h', hle', hsl, hput⟩ := Sat.mutate (Sat.front hi hs.sat)
  have hmk : j * k ≤ m * k := Nat.mul_le_mul_right k hj
  -- fewer elements of the same row
  have fewer : ∀ ys : List Value, ∀ h : HL, sl E k a m c ys h → sl E k a j c (ys.take (j * k)) h := fun ys h hy => by
    refine ⟨by rw [List.length_take, hy.1]; omega, ?_⟩
    rcases hy.2 with ⟨h1, h2⟩ | ⟨g, cur, h1, h2, h3, h4, h5, h6⟩
    · exact .inl ⟨by omega, h2⟩
    · exact .inr ⟨g, cur, h1, h2, by omega, h4, h5, by rw [← h6, List.take_take, Nat.min_eq_left hmk]⟩
  by_cases h0 : m = j
  · subst h0
    refine ⟨w, ?_, (), rfl, hs.mono fun h => Sat.replace hi (fun k' hk' => fewer xs k' hk') h⟩
    rw [Nat.sub_self] at hx
    cases hc : cutAt a c m k <;> rw [hc] at hx <;> simp [execOp, ho, resolve, invoke, builtin, hf.opv hx, Builtin.clear_, run_underlying hT, Result.andThen]
  · have hlt : j < m := by omega
    obtain ⟨g, rfl⟩ := sl_some hsl (by omega)
    have hmc := (sl_le hsl).1
    have hcj : c ≠ j := by omega
    rw [cutAt_some hcj, Nat.zero_add] at hx
    have hzl : (Builtin.zeroCells z.cells (m - j)).toList.length = (m - j) * k := by rw [Array.length_toList, size_zeroCells, hzk]
    have hz1' : ∀ v ∈ (Builtin.zeroCells z.cells (m - j)).toList, v.oneCell' = true := fun v hv => by
      simp only [Builtin.zeroCells, Array.toList_map, List.mem_map] at hv
      obtain ⟨q, hq, rfl⟩ := hv
      have hq2 : q % z.cells.size < z.cells.size := Nat.mod_lt _ (by omega)
      rw [getElem!_pos z.cells _ hq2]
      exact hz1 _ (by simp)
    have hjm : j * k + (m - j) * k = m * k := by rw [← Nat.add_mul]; congr 1; omega
    obtain ⟨w', r1, r2, r3, r4, r5⟩ := store_sl (P := P) hi hs.sat hz1' (off := j * k) (by rw [hzl]; omega) (by omega)
    refine ⟨w', ?_, (), rfl, hs.put ?_ r3 r4 r5⟩
    · obtain ⟨q, hq⟩ : ∃ q, m - j = q + 1 := ⟨m - j - 1, by omega⟩
      rw [hq] at hx r1
      simp only [execOp, ho, resolve, invoke, builtin, Sem.run_bind, Sem.run_pure, Result.andThen_ok, List.map_toArray, List.map_cons, List.map_nil, hf.opv hx]
      simp [Builtin.clear_, run_underlying hT, hz.run, Result.andThen, r1]
    · have hlt2 : i < l.length := by
        rcases Nat.lt_or_ge i l.length with h | h
        · exact h
        · rw [List.getElem?_eq_none h] at hi; cases hi
      have := Sat.replace (A := sl E k (some ⟨g, 0, none⟩) m c (splice xs (j * k) (Builtin.zeroCells z.cells (m - j)).toList)) (i := i) (by simp [hlt2]) (fewer _) r2
      rw [List.set_set] at this
      have e1 : (splice xs (j * k) (Builtin.zeroCells z.cells (m - j)).toList).take (j * k) = xs.take (j * k) := by
        have : (xs.take (j * k)).length = j * k := by rw [List.length_take, hsl.1]; omega
        simp only [splice, List.append_assoc]
        rw [List.take_append_of_le_length (by omega), List.take_take, Nat.min_self]
      rwa [e1] at this

/-! ### other looks of a row -/
theorem sl_of_pts {E k b m : Nat} {cs : Array Value} (hc : cs.size = m * k) (hm : m ≤ maxLen) : ∀ h, pts b (.cells cs E (0, 0)) h → sl E k (some ⟨b, 0, none⟩) m m cs.toList h := fun h hp =>
  ⟨by simpa using hc, .inr ⟨b, cs, rfl, hp, Nat.le_refl _, hm, hc, List.take_of_length_le (by simp [hc])⟩⟩
theorem rs_cut {E k m c i j : Nat} {a : Option Addr} {xs : List Value} (hij : i ≤ j) (hj : j ≤ m) : ∀ h, sl E k a m c xs h → rs k (cutAt a c i k) (j - i) ((xs.drop (i * k)).take ((j - i) * k)) h := fun h hs => by
  have hm := (sl_le hs).1
  have e1 : i * k + (j - i) * k ≤ m * k := by rw [← Nat.add_mul]; exact Nat.mul_le_mul_right k (by omega)
  refine ⟨by rw [List.length_take, List.length_drop, hs.1]; omega, ?_⟩
  by_cases h0 : j - i = 0
  · exact .inl h0
  · right
    obtain ⟨g, rfl⟩ := sl_some hs (by omega)
    obtain ⟨cur, h2, h3, h4, h5, h6⟩ := sl_cells hs (by omega)
    refine ⟨g, 0 + i * k, cur, E, (0, 0), cutAt_some (by omega), h2, ?_⟩
    rw [← h6, Nat.zero_add, List.drop_take, List.take_take, Nat.min_eq_left (by omega)]

/-! ### fields of structs by value -/
theorem ov_field1 {T F i off : Nat} {x : Operand} {cs : Array Value} {v : Value} (ho : o.op = .field T x i) (hx : opv e x = some (.agg cs)) (hF : ∃ fs f, P.underlying T = some (.struct fs) ∧ fs[i]? = some f ∧ f.offset = off ∧ f.type = F) (h1 : One P F) (hv : cs[off]? = some v) :
    OpV P n o e l v := fun a w hf _ => by
  obtain ⟨fs, f, h2, h3, h4, h5⟩ := hF
  subst h4; subst h5
  simp [execOp, ho, hf.opv hx, Instr.field, run_underlying h2, h3, Result.andThen, asAgg, part, h1.isAgg, hv]

end
end Go.Proofs.Ytbjdadekheoebaa
