/- Elements of slices that are of several cells each, and what is appended out of another slice. It speaks of no program. -/
import Derived.Test.YtbjdadekheoebaaOps3
set_option linter.all false
set_option linter.unusedVariables false
set_option linter.unusedSimpArgs false
set_option linter.unusedSectionVars false
set_option linter.unnecessarySimpa false
namespace Go.Proofs.Ytbjdadekheoebaa
open Go.RowKit Go.Lib

section
variable {P : Program} {s : World} {n : Nat} {o : Oper} {e : Env} {l : List HP} {τ : Type} {enc : τ → List Value} {k : Nat}

theorem SizeOf.of {E k : Nat} (h : (P.info? E).map (·.size) = some k) : ∃ inf, P.info? E = some inf ∧ inf.size = k := by
  cases hi : P.info? E with
  | none => simp [hi] at h
  | some i => exact ⟨i, rfl, by simpa [hi] using h⟩

/-- the address of element j -/
theorem ov_indexAddr0 {T E size j : Nat} {x y : Operand} {g m c : Nat} {kk : IntKind} {i : Int} (ho : o.op = .indexAddr T x y) (hx : opv e x = some (.slice (some ⟨g, 0, none⟩) m c)) (hy : opv e y = some (.int kk i)) (hT : P.underlying T = some (.slice E)) (hE : ∃ inf, P.info? E = some inf ∧ inf.size = size) (hij : i = (j : Int)) (h1 : j < m) :
    OpV P n o e l (.pointer (some ⟨g, j * size, none⟩)) := by
  subst hij
  have := ov_indexAddr (P := P) (n := n) (l := l) ho hx hy hT hE (by omega) (by omega)
  simpa using this
theorem ov_indexAddrR {T E size j off : Nat} {x y : Operand} {g m c : Nat} {kk : IntKind} {i : Int} (ho : o.op = .indexAddr T x y) (hx : opv e x = some (.slice (some ⟨g, off, none⟩) m c)) (hy : opv e y = some (.int kk i)) (hT : P.underlying T = some (.slice E)) (hE : ∃ inf, P.info? E = some inf ∧ inf.size = size) (hij : i = (j : Int)) (h1 : j < m) :
    OpV P n o e l (.pointer (some ⟨g, off + j * size, none⟩)) := by
  subst hij
  have := ov_indexAddr (P := P) (n := n) (l := l) ho hx hy hT hE (by omega) (by omega)
  simpa using this
theorem flat_get (hk : ∀ x, (enc x).length = k) {qs : List τ} {j d : Nat} {x : τ} {v : Value} (hx : qs[j]? = some x) (hv : (enc x)[d]? = some v) : (qs.flatMap enc)[j * k + d]? = some v := by
  have h1 := flat_at hk hx
  have hd : d < k := by rw [← hk x]; exact (List.getElem?_eq_some_iff.1 hv).1
  rw [← h1, List.getElem?_take, if_pos hd, List.getElem?_drop] at hv
  exact hv
theorem rd_el {i E g m c j : Nat} {qs : List τ} {x : τ} {v : Value} (d : Nat) (hk : ∀ x, (enc x).length = k) (hi : l[i]? = some (sl E k (some ⟨g, 0, none⟩) m c (qs.flatMap enc))) (hx : qs[j]? = some x) (hv : (enc x)[d]? = some v) : Rd l g (j * k + d) v :=
  rd_sl hi (flat_get hk hx hv)
theorem rds_el {i E g m c j : Nat} {qs : List τ} {x : τ} {cs : List Value} (d : Nat) (hk : ∀ x, (enc x).length = k) (hi : l[i]? = some (sl E k (some ⟨g, 0, none⟩) m c (qs.flatMap enc))) (hx : qs[j]? = some x) (hv : ((enc x).drop d).take cs.length = cs) : Rds l g (j * k + d) cs := fun q v hq => by
  rw [Nat.add_assoc]
  refine rd_el _ hk hi hx ?_
  rw [← hv, List.getElem?_take] at hq
  split at hq
  · rw [List.getElem?_drop] at hq; exact hq
  · cases hq
theorem rd_elr {i g off m j : Nat} {qs : List τ} {x : τ} {v : Value} (d : Nat) (hk : ∀ x, (enc x).length = k) (hi : l[i]? = some (rs k (some ⟨g, off, none⟩) m (qs.flatMap enc))) (hx : qs[j]? = some x) (hv : (enc x)[d]? = some v) : Rd l g (off + j * k + d) v := by
  rw [Nat.add_assoc]; exact rd_rs hi (flat_get hk hx hv)
theorem rds_elr {i g off m j : Nat} {qs : List τ} {x : τ} {cs : List Value} (d : Nat) (hk : ∀ x, (enc x).length = k) (hi : l[i]? = some (rs k (some ⟨g, off, none⟩) m (qs.flatMap enc))) (hx : qs[j]? = some x) (hv : ((enc x).drop d).take cs.length = cs) : Rds l g (off + j * k + d) cs := fun q v hq => by
  rw [Nat.add_assoc (off + j * k)]
  refine rd_elr _ hk hi hx ?_
  rw [← hv, List.getElem?_take] at hq
  split at hq
  · rw [List.getElem?_drop] at hq; exact hq
  · cases hq
theorem one_flat (h : ∀ x, ∀ u ∈ enc x, u.oneCell' = true) (qs : List τ) : ∀ u ∈ qs.flatMap enc, u.oneCell' = true := fun u hu => by
  obtain ⟨x, _, hx⟩ := List.mem_flatMap.1 hu; exact h x u hx
theorem take_flat (hk : ∀ x, (enc x).length = k) : ∀ (qs : List τ) (j : Nat), (qs.flatMap enc).take (j * k) = (qs.take j).flatMap enc
  | [], j => by simp
  | q :: qs, 0 => by simp
  | q :: qs, j + 1 => by
    have e1 : (j + 1) * k = (enc q).length + j * k := by rw [hk, Nat.add_mul]; omega
    rw [List.flatMap_cons, e1, List.take_length_add_append, take_flat hk qs j]; simp
theorem drop_flat (hk : ∀ x, (enc x).length = k) : ∀ (qs : List τ) (j : Nat), (qs.flatMap enc).drop (j * k) = (qs.drop j).flatMap enc
  | [], j => by simp
  | q :: qs, 0 => by simp
  | q :: qs, j + 1 => by
    have e1 : (j + 1) * k = (enc q).length + j * k := by rw [hk, Nat.add_mul]; omega
    rw [List.flatMap_cons, e1, List.drop_length_add_append, drop_flat hk qs j]; simp

/-- What is appended shows these cells. -/
def Shows (l : List HP) (k : Nat) (a : Option Addr) (m : Nat) (xs : List Value) : Prop := xs.length = m * k ∧ ∀ w, Sat l (hl w) → m = 0 ∨ ∃ ad, a = some ad ∧ ∀ j u, xs[j]? = some u → w.cell? (ad.add j) = some u
theorem shows_rs {i m : Nat} {a : Option Addr} {xs : List Value} (hx : xs.length = m * k) (hi : l[i]? = some (rs k a m xs)) : Shows l k a m xs := ⟨hx, fun w hs => by
  obtain ⟨h', hle, hr⟩ := Sat.pick hi hs
  rcases Nat.eq_zero_or_pos m with h0 | h0
  · exact .inl h0
  · obtain ⟨g, off, rfl, h2⟩ := rs_some hr h0
    refine .inr ⟨_, rfl, fun j u hu => ?_⟩
    obtain ⟨c, T, fz, h3, h4⟩ := h2 j u hu
    have h5 : w.heap[g]? = some (.cells c T fz) := hle _ _ h3
    simp [World.cell?, Addr.add_lit, h5, h4]⟩
theorem shows_sl {i E m c : Nat} {a : Option Addr} {xs : List Value} (hx : xs.length = m * k) (hi : l[i]? = some (sl E k a m c xs)) : Shows l k a m xs := ⟨hx, fun w hs => by
  obtain ⟨h', hle, hr⟩ := Sat.pick hi hs
  rcases Nat.eq_zero_or_pos m with h0 | h0
  · exact .inl h0
  · obtain ⟨g, off, rfl, h2⟩ := rs_some (rs_of_sl _ hr) h0
    refine .inr ⟨_, rfl, fun j u hu => ?_⟩
    obtain ⟨c, T, fz, h3, h4⟩ := h2 j u hu
    have h5 : w.heap[g]? = some (.cells c T fz) := hle _ _ h3
    simp [World.cell?, Addr.add_lit, h5, h4]⟩
/-- append(s, xs...) -/
theorem oe_appendL {T E bytes : Nat} {x y : Operand} {a a2 : Option Addr} {kk c m cc : Nat} {xs news : List Value} {i : Nat} (ho : o.op = .call { callee := .builtin .append, args := #[x, y], argTypes := #[T, T] })
    (hT : Elem P T E k bytes) (hx : opv e x = some (.slice a kk c)) (hy : opv e y = some (.slice a2 m cc)) (hi : l[i]? = some (sl E k a kk c xs)) (hsh : Shows l k a2 m news)
    (h1 : ∀ u ∈ news, u.oneCell' = true) (h63 : kk + m ≤ maxLen) (hb : (kk + m) * bytes ≤ 140737488355328) :
    OpE P s n o e l (fun v w' => ∃ q : Option Addr × Nat, v = .slice q.1 (kk + m) q.2 ∧ St s (sl E k q.1 (kk + m) q.2 (xs ++ news) :: l.eraseIdx i) w') := fun ac w K Q hf hs hK => by
  by_cases h0 : a2 = none
  · subst h0
    have hm : m = 0 := by rcases hsh.2 w hs.sat with h | ⟨ad, h, _⟩; exact h; cases h
    subst hm
    have hnil : news = [] := List.length_eq_zero_iff.1 (by rw [hsh.1]; simp)
    subst hnil
    have hv := oe_append0 (P := P) (n := n) ho hT hx hy hi ac w hf hs.sat
    unfold Oper.wp; rw [hv]
    exact hK _ _ ⟨(a, c), rfl, hs.mono fun h => by simpa using Sat.front hi h⟩
  · obtain ⟨ad, rfl⟩ := Option.ne_none_iff_exists'.1 h0
    by_cases hm : m = 0
    · subst hm
      have hnil : news = [] := List.length_eq_zero_iff.1 (by rw [hsh.1]; simp)
      subst hnil
      exact oe_append ho hT hx hy hi hsh.1 (fun _ _ j u hu => by simp at hu) h1 h63 hb ac w K Q hf hs hK
    · -- the cells are there in each such memory
      refine oe_append ho hT hx hy hi hsh.1 (fun w' hs' j u hu => ?_) h1 h63 hb ac w K Q hf hs hK
      rcases hsh.2 w' hs' with h | ⟨ad', h, h2⟩
      · exact absurd h hm
      · cases h; exact h2 j u hu

end

/-! ### results, some of them in cells -/
section
variable {P : Program} {s : World} {n : Nat} {e : Env} {l : List HP}
/-- What the results of a function are, where the slots e and the parts l are. -/
inductive ResV (P : Program) (n : Nat) (e : Env) (l : List HP) : List ResultVar → List Value → Prop
  | nil : ResV P n e l [] []
  | cons {r : ResultVar} {v : Value} {rs : List ResultVar} {vs : List Value} : (∀ a w, Fr n e a → Sat l (hl w) → (resOne a.tmps r).run P w = .ok v w) → ResV P n e l rs vs → ResV P n e l (r :: rs) (v :: vs)
theorem res_tmp {t : Nat} {v : Value} (h : look e t = some v) : ∀ a w, Fr n e a → Sat l (hl w) → (resOne a.tmps (.tmp t)).run P w = .ok v w := fun a w hf _ => by
  have := hf.at_ t v h
  simp [resOne, this]
theorem res_cells {t T b off : Nat} {cs : List Value} (h : look e t = some (.pointer (some ⟨b, off, none⟩))) (h1 : Agg P T cs.length) (hr : Rds l b off cs) : ∀ a w, Fr n e a → Sat l (hl w) → (resOne a.tmps (.cell t T)).run P w = .ok (.agg cs.toArray) w := fun a w hf hs => by
  have := hf.at_ t _ h
  have hc := run_loadCells_list (P := P) w ⟨b, off, none⟩ cs (fun j v hv => by rw [Addr.add_lit]; exact cell_of_rd (hr j v hv) hs)
  simp [resOne, this, asAddr, loadVar, Result.andThen, h1.isAgg, h1.sizeOf, hc]
theorem res_cell1 {t T b off : Nat} {v : Value} (h : look e t = some (.pointer (some ⟨b, off, none⟩))) (h1 : One P T) (hr : Rd l b off v) : ∀ a w, Fr n e a → Sat l (hl w) → (resOne a.tmps (.cell t T)).run P w = .ok v w := fun a w hf hs => by
  have := hf.at_ t _ h
  simp [resOne, this, asAddr, loadVar, Result.andThen, h1.isAgg, run_load, cell_of_rd hr hs]
theorem run_resVs {rs : List ResultVar} {vs : List Value} (h : ResV P n e l rs vs) {a : Act} {w : World} (hf : Fr n e a) (hs : Sat l (hl w)) : (rs.mapM (resOne a.tmps)).run P w = .ok vs w := by
  induction h with
  | nil => simp [pure]
  | cons h1 _ ih => simp only [List.mapM_cons, Sem.run_bind, h1 a w hf hs, Result.andThen, ih, Sem.run_pure]
theorem run_resultsV {fn : Func} {vs : List Value} {a : Act} {w : World} (hf : Fr n e a) (hs : Sat l (hl w)) (hr : ResV P n e l fn.results.toList vs) : (results fn a.tmps).run P w = .ok (oneOf vs) w := by
  rw [results_eq, Sem.run_bind, Array.mapM_eq_mapM_toList, Sem.run_map, run_resVs hr hf hs]
  simp only [Result.andThen, Sem.run_pure]
  congr 1
  match vs with
  | [] => simp [oneOf]
  | [v] => simp [oneOf]
  | u :: v :: r => simp [oneOf]
theorem xj_retV {α : Type} {fn : Func} {V : α → Value} {C : α → List HP} {F : HP} {vs : List Value} (x : α) (hr : ResV P n e l fn.results.toList vs) (hv : oneOf vs = V x) (hs : ∀ h, Sat l h → Sat (C x ++ [F]) h) :
    XJ s (bodyPost P fn (fun e w' => ∃ x, e = .returned (V x) ∧ St s (C x ++ [F]) w')) .ret n e l := fun _ _ hf hw => ⟨hf.defers, _, run_resultsV hf hw.sat hr, x, by rw [hv], hw.mono (hs _)⟩
theorem xj_endV {α : Type} {fn : Func} {V : α → Value} {C : α → List HP} {F : HP} {vs : List Value} (x : α) (hr : ResV P n e l fn.results.toList vs) (hv : oneOf vs = V x) (hs : ∀ h, Sat l h → Sat (C x ++ [F]) h) :
    XJ s (bodyPost P fn (fun e w' => ∃ x, e = .returned (V x) ∧ St s (C x ++ [F]) w')) .normal n e l := fun _ _ hf hw => ⟨hf.defers, _, run_resultsV hf hw.sat hr, x, by rw [hv], hw.mono (hs _)⟩
end

/-! ### structs compared -/
section
variable {P : Program} {s : World} {n : Nat} {o : Oper} {e : Env} {l : List HP}
theorem ov_aggeql {T T' : TypeId} {x y : Operand} {xs ys : Array Value} {b : Bool} (ho : o.op = .binOp .eql T x y T') (hx : opv e x = some (.agg xs)) (hy : opv e y = some (.agg ys)) (hm : P.eqGuardType P.depth T = false) (hq : ∀ w, (Op.equalIn (9999 + 1) T (.agg xs) (.agg ys)).run P w = .ok b w) :
    OpV P n o e l (.bool b) := fun a w hf _ => by
  have h1 := run_eql_struct (P := P) w T xs ys
  have h2 : (Op.equalIn 10000 T (.agg xs) (.agg ys)).run P w = .ok b w := hq w
  rw [h2] at h1
  simp only [execOp, ho, hf.opv hx, hf.opv hy, Sem.run_bind, run_eqGuard_agg w .eql T x y xs ys hm, Result.andThen, h1, Sem.run_pure]
theorem ov_aggneq {T T' : TypeId} {x y : Operand} {xs ys : Array Value} {b : Bool} (ho : o.op = .binOp .neq T x y T') (hx : opv e x = some (.agg xs)) (hy : opv e y = some (.agg ys)) (hm : P.eqGuardType P.depth T = false) (hq : ∀ w, (Op.equalIn (9999 + 1) T (.agg xs) (.agg ys)).run P w = .ok b w) :
    OpV P n o e l (.bool (!b)) := fun a w hf _ => by
  have h1 := run_neq_struct (P := P) w T xs ys
  have h2 : (Op.equalIn 10000 T (.agg xs) (.agg ys)).run P w = .ok b w := hq w
  rw [h2] at h1
  simp only [execOp, ho, hf.opv hx, hf.opv hy, Sem.run_bind, run_eqGuard_agg w .neq T x y xs ys hm, Result.andThen, h1, Sem.run_pure]
theorem part_one {F off : Nat} {xs : Array Value} {v : Value} (h1 : One P F) (hx : xs[off]? = some v) (w : World) : (part F xs off).run P w = .ok v w := by
  simp [part, h1.isAgg, Result.andThen, hx]
theorem eqf_nil {d : Nat} {xs ys : Array Value} (w : World) : (Op.eqFields d xs ys []).run P w = .ok true w := by simp [Op.eqFields]
theorem eqf_int {d : Nat} {xs ys : Array Value} {f : Field} {fs : List Field} {k : IntKind} {a b : Int} {r : Bool} (hn : (f.name == "_") = false) (h1 : One P f.type) (hT : P.underlying f.type = some (.int k)) (ha : xs[f.offset]? = some (.int k a)) (hb : ys[f.offset]? = some (.int k b))
    (k' : ∀ w, (Op.eqFields (d + 1) xs ys fs).run P w = .ok r w) (w : World) : (Op.eqFields (d + 1) xs ys (f :: fs)).run P w = .ok ((a == b) && r) w := by
  have hn' : f.name ≠ "_" := by simpa using hn
  simp only [Op.eqFields, hn', ne_eq, not_false_eq_true, if_true, Sem.run_bind, part_one h1 ha, part_one h1 hb, Result.andThen, run_equalIn_int w d f.type k k a b hT, Sem.run_ite]
  cases hab : a == b
  · simp
  · simp [k' w]
theorem eqf_str {d : Nat} {xs ys : Array Value} {f : Field} {fs : List Field} {a b : ByteArray} {r : Bool} (hn : (f.name == "_") = false) (h1 : One P f.type) (hT : P.underlying f.type = some .string) (ha : xs[f.offset]? = some (.string a)) (hb : ys[f.offset]? = some (.string b))
    (k' : ∀ w, (Op.eqFields (d + 1) xs ys fs).run P w = .ok r w) (w : World) : (Op.eqFields (d + 1) xs ys (f :: fs)).run P w = .ok ((a == b) && r) w := by
  have hn' : f.name ≠ "_" := by simpa using hn
  simp only [Op.eqFields, hn', ne_eq, not_false_eq_true, if_true, Sem.run_bind, part_one h1 ha, part_one h1 hb, Result.andThen, run_equalIn_string w d f.type a b hT, Sem.run_ite, ← beq_toListBytes]
  cases hab : a == b
  · simp
  · simp [k' w]
theorem eqf_bool {d : Nat} {xs ys : Array Value} {f : Field} {fs : List Field} {a b : Bool} {r : Bool} (hn : (f.name == "_") = false) (h1 : One P f.type) (hT : P.underlying f.type = some .bool) (ha : xs[f.offset]? = some (.bool a)) (hb : ys[f.offset]? = some (.bool b))
    (k' : ∀ w, (Op.eqFields (d + 1) xs ys fs).run P w = .ok r w) (w : World) : (Op.eqFields (d + 1) xs ys (f :: fs)).run P w = .ok ((a == b) && r) w := by
  have hn' : f.name ≠ "_" := by simpa using hn
  simp only [Op.eqFields, hn', ne_eq, not_false_eq_true, if_true, Sem.run_bind, part_one h1 ha, part_one h1 hb, Result.andThen, run_equalIn_bool' w d f.type a b hT, Sem.run_ite]
  cases hab : a == b
  · simp
  · simp [k' w]
theorem eq_struct {T : TypeId} {fs : Array Field} {xs ys : Array Value} {b : Bool} (hT : P.underlying T = some (.struct fs)) (hp : P.stoodInHeld T = false) (h : ∀ w, (Op.eqFields (9998 + 1) xs ys fs.toList).run P w = .ok b w) (w : World) : (Op.equalIn (9999 + 1) T (.agg xs) (.agg ys)).run P w = .ok b w := by
  have hf : P.fieldsOf T = fs := by simp only [Program.fieldsOf, hT]
  have hT' : P.underlying T = some (.struct (P.fieldsOf T)) := by rw [hf]; exact hT
  rw [run_equalIn_struct w 9999 T xs ys hT' hp, hf]
  exact h w
end

/-! ### strings by their bytes -/
def ba (t : List UInt8) : ByteArray := ⟨t.toArray⟩
def encS (t : List UInt8) : Value := .string (ba t)
theorem ba_inj {s t : List UInt8} (h : ba s = ba t) : s = t := by
  have := congrArg (fun b : ByteArray => b.data.toList) h
  simpa [ba] using this
instance : Key encS .string := ⟨fun _ => trivial, fun a b h => ba_inj (by simpa [encS] using h)⟩
theorem ba_of (b : ByteArray) : b = ba b.data.toList := by simp [ba]
theorem ba_size (t : List UInt8) : (ba t).size = t.length := by simp [ba, ByteArray.size]
theorem ba_toList (t : List UInt8) : (ba t).toList = t := by rw [ByteArray.toList_eq]; simp [ba]
theorem ba_append (s t : List UInt8) : ba s ++ ba t = ba (s ++ t) := by
  have h : (ba s ++ ba t).data.toList = s ++ t := by simp [ba]
  rw [ba_of (ba s ++ ba t), h]
theorem ba_beq (s t : List UInt8) : (ba s == ba t) = (s == t) := by
  rw [beq_toListBytes, ba_toList, ba_toList]

section
variable {P : Program} {s : World} {Q : Exit → Act → World → Prop} {n : Nat} {e : Env} {l : List HP} {ops : Array Oper} {lS : List HP} {bar : List Nat} {listed : Array Bool} {fuel : Nat}
theorem aj_fact {p : Prop} (hs : ∀ h, Sat l h → p) (k : p → AJ P s ops Q lS bar fuel listed n e l) : AJ P s ops Q lS bar fuel listed n e l := fun a w hf hw => k (hs _ hw.sat) a w hf hw
end
end Go.Proofs.Ytbjdadekheoebaa
