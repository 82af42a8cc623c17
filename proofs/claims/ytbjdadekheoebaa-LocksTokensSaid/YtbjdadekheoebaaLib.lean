/- Small functions of the library on slices. -/
import Derived.Test.YtbjdadekheoebaaTy
set_option linter.all false
set_option linter.unusedVariables false
set_option linter.unusedSimpArgs false
set_option linter.unusedSectionVars false
set_option linter.unnecessarySimpa false
namespace Go.Proofs.Ytbjdadekheoebaa
open Go.RowKit Go.Lib

/-- ints as elements -/
def ei (z : Int) : List Value := [.int .i64 z]
theorem ei_len : ∀ z, (ei z).length = 1 := fun _ => rfl
theorem ei_one : ∀ z, ∀ u ∈ ei z, u.oneCell' = true := by intro z u hu; simp [ei] at hu; subst hu; rfl
/-- the place of the first that p holds of; -1: there is none -/
def ixOf {τ : Type} (p : τ → Bool) (qs : List τ) : Int := match qs.findIdx? p with | some i => (i : Int) | none => -1
theorem ixOf_hit {τ : Type} {p : τ → Bool} {qs : List τ} {i : Nat} {x : τ} (hx : qs[i]? = some x) (hp : p x = true) (hn : ∀ y ∈ qs.take i, p y = false) : ixOf p qs = i := by
  have : qs.findIdx? p = some i := by
    obtain ⟨hlt, he⟩ := List.getElem?_eq_some_iff.1 hx
    rw [List.findIdx?_eq_some_iff_getElem]
    refine ⟨hlt, by rw [he]; exact hp, fun j hj => ?_⟩
    have := hn qs[j] (List.mem_take_iff_getElem.2 ⟨j, by omega, rfl⟩)
    simp [this]
  simp [ixOf, this]
theorem ixOf_none {τ : Type} {p : τ → Bool} {qs : List τ} (hn : ∀ y ∈ qs, p y = false) : ixOf p qs = -1 := by
  have : qs.findIdx? p = none := by rw [List.findIdx?_eq_none_iff]; exact hn
  simp [ixOf, this]
theorem ixOf_any {τ : Type} {p : τ → Bool} {qs : List τ} : decide (0 ≤ ixOf p qs) = qs.any p := by
  unfold ixOf
  cases h : qs.findIdx? p with
  | none => simp only [List.findIdx?_eq_none_iff] at h; simp only [show ¬ ((0:Int) ≤ -1) by omega, decide_false]; symm; simpa using h
  | some i =>
    rw [List.findIdx?_eq_some_iff_getElem] at h
    obtain ⟨h1, h2, _⟩ := h
    have : qs.any p = true := List.any_eq_true.2 ⟨_, List.getElem_mem h1, h2⟩
    rw [this]; simp
theorem take_step {τ : Type} {p : τ → Bool} {qs : List τ} {i : Nat} {x : τ} (hx : qs[i]? = some x) (hp : p x = false) (hn : ∀ y ∈ qs.take i, p y = false) : ∀ y ∈ qs.take (i + 1), p y = false := by
  intro y hy
  rw [List.take_add_one, hx] at hy
  rcases List.mem_append.1 hy with h | h
  · exact hn y h
  · simp at h; subst h; exact hp
theorem take_all {τ : Type} {p : τ → Bool} {qs : List τ} {i : Nat} (hi : qs.length ≤ i) (hn : ∀ y ∈ qs.take i, p y = false) : ∀ y ∈ qs, p y = false := by rwa [List.take_of_length_le hi] at hn
theorem ixOf_some {τ : Type} {p : τ → Bool} {qs : List τ} (h : ixOf p qs ≠ -1) : ∃ i x, ixOf p qs = ((i : Nat) : Int) ∧ qs[i]? = some x ∧ p x = true ∧ ∀ y ∈ qs.take i, p y = false := by
  unfold ixOf at h ⊢
  cases h0 : qs.findIdx? p with
  | none => simp [h0] at h
  | some i =>
    rw [List.findIdx?_eq_some_iff_getElem] at h0
    obtain ⟨h1, h2, h3⟩ := h0
    refine ⟨i, qs[i], rfl, List.getElem?_eq_getElem h1, h2, fun y hy => ?_⟩
    obtain ⟨j, hj, e⟩ := List.mem_take_iff_getElem.1 hy
    have := h3 j (by omega)
    rw [← e]; simpa using this
/-- what holds at each round of a deletion: i elements are kept, j are read -/
def DelInv {τ : Type} (p : τ → Bool) (qs : List τ) (i j : Nat) (cur : List τ) : Prop := cur.length = qs.length ∧ i < j ∧ j ≤ qs.length ∧ cur.take i = (qs.take j).filter (fun y => !p y) ∧ cur.drop j = qs.drop j
theorem del_start {τ : Type} {p : τ → Bool} {qs : List τ} {i : Nat} {x : τ} (hx : qs[i]? = some x) (hp : p x = true) (hn : ∀ y ∈ qs.take i, p y = false) : DelInv p qs i (i + 1) qs := by
  have h1 : i < qs.length := (List.getElem?_eq_some_iff.1 hx).1
  refine ⟨rfl, by omega, by omega, ?_, rfl⟩
  rw [List.take_add_one, hx, List.filter_append]
  have : (qs.take i).filter (fun y => !p y) = qs.take i := List.filter_eq_self.2 fun y hy => by simp [hn y hy]
  simp [this, hp]
theorem del_at {τ : Type} {p : τ → Bool} {qs cur : List τ} {i j : Nat} (h : DelInv p qs i j cur) (hj : j < qs.length) : ∃ x, cur[j]? = some x ∧ qs[j]? = some x := by
  obtain ⟨h1, h2, h3, h4, h5⟩ := h
  refine ⟨qs[j], ?_, List.getElem?_eq_getElem hj⟩
  have : (cur.drop j)[0]? = (qs.drop j)[0]? := by rw [h5]
  simpa [hj] using this
theorem del_keep {τ : Type} {p : τ → Bool} {qs cur : List τ} {i j : Nat} {x : τ} (h : DelInv p qs i j cur) (hx : qs[j]? = some x) (hp : p x = false) : DelInv p qs (i + 1) (j + 1) (cur.set i x) := by
  obtain ⟨h1, h2, h3, h4, h5⟩ := h
  have hj : j < qs.length := (List.getElem?_eq_some_iff.1 hx).1
  refine ⟨by simpa using h1, by omega, by omega, ?_, ?_⟩
  · rw [List.take_add_one (l := qs), hx, List.filter_append, ← h4, List.take_add_one]
    rw [List.take_set_of_le (by omega)]
    simp [hp, show i < cur.length by omega]
  · rw [List.drop_set_of_lt (by omega), ← List.drop_drop, ← List.drop_drop, h5]
theorem del_skip {τ : Type} {p : τ → Bool} {qs cur : List τ} {i j : Nat} {x : τ} (h : DelInv p qs i j cur) (hx : qs[j]? = some x) (hp : p x = true) : DelInv p qs i (j + 1) cur := by
  obtain ⟨h1, h2, h3, h4, h5⟩ := h
  have hj : j < qs.length := (List.getElem?_eq_some_iff.1 hx).1
  refine ⟨h1, by omega, by omega, ?_, ?_⟩
  · rw [List.take_add_one, hx, List.filter_append, ← h4]; simp [hp]
  · rw [← List.drop_drop, ← List.drop_drop, h5]
theorem del_end {τ : Type} {p : τ → Bool} {qs cur : List τ} {i j : Nat} (h : DelInv p qs i j cur) (hj : ¬ ((j : Int) < (qs.length : Int))) : i = (qs.filter (fun y => !p y)).length ∧ cur.take i = qs.filter (fun y => !p y) := by
  obtain ⟨h1, h2, h3, h4, h5⟩ := h
  have e : j = qs.length := by omega
  subst e
  rw [List.take_length] at h4
  exact ⟨by rw [← h4, List.length_take]; omega, h4⟩
theorem ixOf_no {τ : Type} {p : τ → Bool} {qs : List τ} (h : ixOf p qs = -1) : qs.filter (fun y => !p y) = qs := by
  unfold ixOf at h
  cases h0 : qs.findIdx? p with
  | none => rw [List.findIdx?_eq_none_iff] at h0; exact List.filter_eq_self.2 fun y hy => by simp [h0 y hy]
  | some i => rw [h0] at h; simp at h
theorem at_lt {τ : Type} {qs : List τ} {i : Nat} (h : i < qs.length) : ∃ x, qs[i]? = some x := ⟨qs[i], List.getElem?_eq_getElem h⟩

set_option maxRecDepth 100000 in
set_option maxHeartbeats 8000000 in
theorem lib_index_int (a : Option Addr) (c : Nat) (qs : List Int) (v : Int) (hlen : qs.length ≤ 1099511627776) : Spec Try.prog 198 [(.slice a qs.length c), (.int .i64 v)] [(sl 3 1 a qs.length c (qs.flatMap ei))] (fun x : Unit => .int .i64 (ixOf (fun y => v == y) qs)) (fun x : Unit => [(sl 3 1 a qs.length c (qs.flatMap ei))]) := by
  refine spec_of (fn := Try.f198) Try.func198 rfl rfl rfl fun F s => ?_
  show CJ _ _ _ _ _ [(0, (.slice a qs.length c)), (1, (.int .i64 v))] [(sl 3 1 a qs.length c (qs.flatMap ei)), F]
  refine cj_seq ?_
  refine cj_region ?_
  refine oj_v (ov_assign rfl rfl) rfl rfl rfl ?_
  refine oj_nil ?_
  refine xj_then ?_
  refine cj_seq ?_
  refine cj_seq ?_
  refine cj_region ?_
  refine oj_v (ov_move rfl rfl) rfl rfl rfl ?_
  refine oj_v (ov_lenL rfl rfl rfl Try.underlying72) rfl rfl rfl ?_
  refine oj_v (ov_move rfl rfl) rfl rfl rfl ?_
  refine oj_nil ?_
  refine xj_then ?_
  refine cj_block ?_
  refine cj_loop (fun x : Nat => [(0, (.slice a qs.length c)), (1, (.int .i64 v)), (7, (.int .i64 (qs.length : Int))), (8, (.int .i64 (x : Int)))]) (fun x : Nat => [(fact (∀ y ∈ qs.take x, (fun y => v == y) y = false)), (sl 3 1 a qs.length c (qs.flatMap ei)), F]) (fun x : Nat => qs.length - x) 0 (EnvLe.cons rfl (EnvLe.cons rfl (EnvLe.cons rfl (EnvLe.cons rfl (EnvLe.nil _))))) (fun h hs => Sat.fact_in (by simp) (sat_sub [0, 1] [] (by decide +kernel) rfl rfl h hs)) ?_
  rintro i
  refine cj_eq (e' := [(0, (.slice a qs.length c)), (1, (.int .i64 v)), (7, (.int .i64 (qs.length : Int))), (8, (.int .i64 (i : Int)))]) (l' := [(fact (∀ y ∈ qs.take i, (fun y => v == y) y = false)), (sl 3 1 a qs.length c (qs.flatMap ei)), F]) rfl rfl ?_
  refine cj_fact (sat_fact 0 rfl) (fun hinv => ?_)
  refine cj_sat (l' := [(sl 3 1 a qs.length c (qs.flatMap ei)), F]) (sat_sub [1, 2] [0] (by decide +kernel) rfl rfl) ?_
  refine cj_seq ?_
  refine cj_region ?_
  refine oj_v (ov_lss rfl rfl rfl) rfl rfl rfl ?_
  refine oj_nil ?_
  refine xj_then ?_
  refine cj_seq ?_
  refine cj_cond (b := decide ((i : Int) < (qs.length : Int))) rfl (fun h1 => ?_) (fun h1 => ?_)
  · have c2 : (i : Int) < (qs.length : Int) := of_decide_eq_true h1
    refine cj_skip ?_
    refine xj_then ?_
    refine cj_seq ?_
    refine cj_block ?_
    refine cj_seq ?_
    refine cj_region ?_
    refine oj_v (ov_move rfl rfl) rfl rfl rfl ?_
    refine oj_v (ov_assign rfl rfl) rfl rfl rfl ?_
    refine oj_nil ?_
    refine xj_then ?_
    refine cj_seq ?_
    obtain ⟨x, hx⟩ := at_lt (qs := qs) (i := i) (by omega)
    refine cj_fact (sat_know 0 rfl (fun h hs => sl_some hs (by omega))) (fun ⟨g3, hg3⟩ => ?_)
    subst hg3
    refine cj_region ?_
    refine oj_v (ov_move rfl rfl) rfl rfl rfl ?_
    refine oj_v (ov_move rfl rfl) rfl rfl rfl ?_
    refine oj_v (ov_move rfl rfl) rfl rfl rfl ?_
    refine oj_v (ov_indexAddr0 (j := i) rfl rfl rfl Try.underlying72 T_s3 (by omega) (by omega)) rfl rfl rfl ?_
    refine oj_v (ov_load1 (v := (.int .i64 x)) rfl rfl T_o3 (rd_el (i := 0) (j := i) 0 ei_len rfl hx rfl)) rfl rfl rfl ?_
    refine oj_v (ov_eql rfl rfl rfl) rfl rfl rfl ?_
    refine oj_nil ?_
    refine xj_then ?_
    refine cj_weak (e' := [(16, (.bool (v == x))), (5, (.int .i64 (i : Int))), (0, (.slice (some ⟨g3, 0, none⟩) qs.length c)), (1, (.int .i64 v)), (7, (.int .i64 (qs.length : Int))), (8, (.int .i64 (i : Int)))]) (EnvLe.cons rfl (EnvLe.cons rfl (EnvLe.cons rfl (EnvLe.cons rfl (EnvLe.cons rfl (EnvLe.cons rfl (EnvLe.nil _))))))) (fun _ h => h) ?_
    refine cj_cond (b := v == x) rfl (fun h4 => ?_) (fun h4 => ?_)
    · have c5 : v = x := by simpa using h4
      refine cj_seq ?_
      refine cj_region ?_
      refine oj_v (ov_move rfl rfl) rfl rfl rfl ?_
      refine oj_v (ov_assign rfl rfl) rfl rfl rfl ?_
      refine oj_nil ?_
      refine xj_then ?_
      refine cj_weak (e' := [(4, (.int .i64 (i : Int))), (0, (.slice (some ⟨g3, 0, none⟩) qs.length c)), (1, (.int .i64 v)), (7, (.int .i64 (qs.length : Int))), (8, (.int .i64 (i : Int)))]) (EnvLe.cons rfl (EnvLe.cons rfl (EnvLe.cons rfl (EnvLe.cons rfl (EnvLe.cons rfl (EnvLe.nil _)))))) (fun _ h => h) ?_
      refine cj_ret ?_
      refine xj_block_ret ?_
      refine xj_then_other (by simp) ?_
      refine xj_round_other (by simp) ?_
      refine xj_block_ret ?_
      refine xj_then_other (by simp) ?_
      refine xj_ret (vs := [(.int .i64 (i : Int))]) () rfl (by rw [ixOf_hit hx (by simpa using h4) hinv]; rfl) ?_
      exact fun _ h => h
    · have c6 : v ≠ x := by simpa using h4
      refine cj_skip ?_
      refine xj_block_normal ?_
      refine xj_then ?_
      refine cj_region ?_
      refine oj_v (ov_add rfl rfl rfl (by omega)) rfl rfl rfl ?_
      refine oj_v (ov_move rfl rfl) rfl rfl rfl ?_
      refine oj_nil ?_
      exact xj_round (i + 1) (by omega) (EnvLe.cons rfl (EnvLe.cons rfl (EnvLe.cons rfl (EnvLe.cons rfl (EnvLe.nil _))))) (fun h hs => Sat.fact_in (take_step hx (by simpa using h4) hinv) (sat_sub [0, 1] [] (by decide +kernel) rfl rfl h hs))
  · have c7 : ¬ ((i : Int) < (qs.length : Int)) := of_decide_eq_false h1
    refine cj_exit ?_
    refine xj_then_other (by simp) ?_
    refine xj_round_other (by simp) ?_
    refine xj_block_exit ?_
    refine xj_then ?_
    refine cj_weak (e' := []) (EnvLe.nil _) (fun _ h => h) ?_
    refine cj_seq ?_
    refine cj_region ?_
    refine oj_v (ov_assign rfl rfl) rfl rfl rfl ?_
    refine oj_nil ?_
    refine xj_then ?_
    refine cj_ret ?_
    refine xj_ret (vs := [(.int .i64 (-1))]) () rfl (by rw [ixOf_none (take_all (by omega) hinv)]; rfl) ?_
    exact fun _ h => h

set_option maxRecDepth 100000 in
set_option maxHeartbeats 8000000 in
theorem lib_indexFunc_int (g : FuncId) (fn : Func) (cv : Value) (R : HP) (p : Int → Bool) (hf : Try.prog.funcs[g]? = some fn) (hn : (fn.name == "runtime.NumGoroutine") = false) (hb : fn.body.isNone = false) (hp : ∀ x, Spec Try.prog g [(.int .i64 x), cv] [R] (fun _ : Unit => .bool (p x)) (fun _ => [R])) (a : Option Addr) (c : Nat) (qs : List Int) (hlen : qs.length ≤ 1099511627776) : Spec Try.prog 199 [(.slice a qs.length c), (.func (.func g) #[] #[cv])] [(sl 3 1 a qs.length c (qs.flatMap ei)), R] (fun x : Unit => .int .i64 (ixOf p qs)) (fun x : Unit => [(sl 3 1 a qs.length c (qs.flatMap ei)), R]) := by
  refine spec_of (fn := Try.f199) Try.func199 rfl rfl rfl fun F s => ?_
  show CJ _ _ _ _ _ [(0, (.slice a qs.length c)), (1, (.func (.func g) #[] #[cv]))] [(sl 3 1 a qs.length c (qs.flatMap ei)), R, F]
  refine cj_seq ?_
  refine cj_region ?_
  refine oj_v (ov_assign rfl rfl) rfl rfl rfl ?_
  refine oj_nil ?_
  refine xj_then ?_
  refine cj_seq ?_
  refine cj_seq ?_
  refine cj_region ?_
  refine oj_v (ov_move rfl rfl) rfl rfl rfl ?_
  refine oj_v (ov_lenL rfl rfl rfl Try.underlying72) rfl rfl rfl ?_
  refine oj_v (ov_move rfl rfl) rfl rfl rfl ?_
  refine oj_nil ?_
  refine xj_then ?_
  refine cj_block ?_
  refine cj_loop (fun x : Nat => [(0, (.slice a qs.length c)), (1, (.func (.func g) #[] #[cv])), (7, (.int .i64 (qs.length : Int))), (8, (.int .i64 (x : Int)))]) (fun x : Nat => [(fact (∀ y ∈ qs.take x, p y = false)), (sl 3 1 a qs.length c (qs.flatMap ei)), R, F]) (fun x : Nat => qs.length - x) 0 (EnvLe.cons rfl (EnvLe.cons rfl (EnvLe.cons rfl (EnvLe.cons rfl (EnvLe.nil _))))) (fun h hs => Sat.fact_in (by simp) (sat_sub [0, 1, 2] [] (by decide +kernel) rfl rfl h hs)) ?_
  rintro i
  refine cj_eq (e' := [(0, (.slice a qs.length c)), (1, (.func (.func g) #[] #[cv])), (7, (.int .i64 (qs.length : Int))), (8, (.int .i64 (i : Int)))]) (l' := [(fact (∀ y ∈ qs.take i, p y = false)), (sl 3 1 a qs.length c (qs.flatMap ei)), R, F]) rfl rfl ?_
  refine cj_fact (sat_fact 0 rfl) (fun hinv => ?_)
  refine cj_sat (l' := [(sl 3 1 a qs.length c (qs.flatMap ei)), R, F]) (sat_sub [1, 2, 3] [0] (by decide +kernel) rfl rfl) ?_
  refine cj_seq ?_
  refine cj_region ?_
  refine oj_v (ov_lss rfl rfl rfl) rfl rfl rfl ?_
  refine oj_nil ?_
  refine xj_then ?_
  refine cj_seq ?_
  refine cj_cond (b := decide ((i : Int) < (qs.length : Int))) rfl (fun h1 => ?_) (fun h1 => ?_)
  · have c2 : (i : Int) < (qs.length : Int) := of_decide_eq_true h1
    refine cj_skip ?_
    refine xj_then ?_
    refine cj_seq ?_
    refine cj_block ?_
    refine cj_seq ?_
    refine cj_region ?_
    refine oj_v (ov_move rfl rfl) rfl rfl rfl ?_
    refine oj_v (ov_assign rfl rfl) rfl rfl rfl ?_
    refine oj_nil ?_
    refine xj_then ?_
    refine cj_seq ?_
    obtain ⟨x, hx⟩ := at_lt (qs := qs) (i := i) (by omega)
    refine cj_fact (sat_know 0 rfl (fun h hs => sl_some hs (by omega))) (fun ⟨g3, hg3⟩ => ?_)
    subst hg3
    refine cj_region ?_
    refine oj_v (ov_move rfl rfl) rfl rfl rfl ?_
    refine oj_v (ov_move rfl rfl) rfl rfl rfl ?_
    refine oj_v (ov_move rfl rfl) rfl rfl rfl ?_
    refine oj_v (ov_indexAddr0 (j := i) rfl rfl rfl Try.underlying72 T_s3 (by omega) (by omega)) rfl rfl rfl ?_
    refine oj_v (ov_load1 (v := (.int .i64 x)) rfl rfl T_o3 (rd_el (i := 0) (j := i) 0 ei_len rfl hx rfl)) rfl rfl rfl ?_
    refine oj_e (oe_callv rfl rfl rfl rfl rfl hf hn hb (rest := [(sl 3 1 (some ⟨g3, 0, none⟩) qs.length c (qs.flatMap ei)), F]) (hp x) (js := [1, 0, 2]) ⟨by decide +kernel, rfl, rfl⟩) rfl rfl rfl (fun _ => ?_)
    refine oj_eq (e' := [(16, (.bool (p x))), (15, (.int .i64 x)), (14, (.pointer (some ⟨g3, (i * 1), none⟩))), (13, (.int .i64 (i : Int))), (12, (.slice (some ⟨g3, 0, none⟩) qs.length c)), (11, (.func (.func g) #[] #[cv])), (5, (.int .i64 (i : Int))), (10, (.int .i64 (i : Int))), (9, (.bool (decide ((i : Int) < (qs.length : Int))))), (0, (.slice (some ⟨g3, 0, none⟩) qs.length c)), (1, (.func (.func g) #[] #[cv])), (7, (.int .i64 (qs.length : Int))), (8, (.int .i64 (i : Int)))]) (l' := [R, (sl 3 1 (some ⟨g3, 0, none⟩) qs.length c (qs.flatMap ei)), F]) rfl rfl ?_
    refine oj_nil ?_
    refine xj_then ?_
    refine cj_weak (e' := [(16, (.bool (p x))), (5, (.int .i64 (i : Int))), (0, (.slice (some ⟨g3, 0, none⟩) qs.length c)), (1, (.func (.func g) #[] #[cv])), (7, (.int .i64 (qs.length : Int))), (8, (.int .i64 (i : Int)))]) (EnvLe.cons rfl (EnvLe.cons rfl (EnvLe.cons rfl (EnvLe.cons rfl (EnvLe.cons rfl (EnvLe.cons rfl (EnvLe.nil _))))))) (fun _ h => h) ?_
    refine cj_cond (b := p x) rfl (fun h4 => ?_) (fun h4 => ?_)
    · have c5 := h4
      refine cj_seq ?_
      refine cj_region ?_
      refine oj_v (ov_move rfl rfl) rfl rfl rfl ?_
      refine oj_v (ov_assign rfl rfl) rfl rfl rfl ?_
      refine oj_nil ?_
      refine xj_then ?_
      refine cj_weak (e' := [(4, (.int .i64 (i : Int))), (0, (.slice (some ⟨g3, 0, none⟩) qs.length c)), (1, (.func (.func g) #[] #[cv])), (7, (.int .i64 (qs.length : Int))), (8, (.int .i64 (i : Int)))]) (EnvLe.cons rfl (EnvLe.cons rfl (EnvLe.cons rfl (EnvLe.cons rfl (EnvLe.cons rfl (EnvLe.nil _)))))) (fun _ h => h) ?_
      refine cj_ret ?_
      refine xj_block_ret ?_
      refine xj_then_other (by simp) ?_
      refine xj_round_other (by simp) ?_
      refine xj_block_ret ?_
      refine xj_then_other (by simp) ?_
      refine xj_ret (vs := [(.int .i64 (i : Int))]) () rfl (by rw [ixOf_hit hx (by simpa using h4) hinv]; rfl) ?_
      exact sat_sub [1, 0, 2] [] (by decide +kernel) rfl rfl
    · have c6 := h4
      refine cj_skip ?_
      refine xj_block_normal ?_
      refine xj_then ?_
      refine cj_region ?_
      refine oj_v (ov_add rfl rfl rfl (by omega)) rfl rfl rfl ?_
      refine oj_v (ov_move rfl rfl) rfl rfl rfl ?_
      refine oj_nil ?_
      exact xj_round (i + 1) (by omega) (EnvLe.cons rfl (EnvLe.cons rfl (EnvLe.cons rfl (EnvLe.cons rfl (EnvLe.nil _))))) (fun h hs => Sat.fact_in (take_step hx (by simpa using h4) hinv) (sat_sub [1, 0, 2] [] (by decide +kernel) rfl rfl h hs))
  · have c7 : ¬ ((i : Int) < (qs.length : Int)) := of_decide_eq_false h1
    refine cj_exit ?_
    refine xj_then_other (by simp) ?_
    refine xj_round_other (by simp) ?_
    refine xj_block_exit ?_
    refine xj_then ?_
    refine cj_weak (e' := []) (EnvLe.nil _) (fun _ h => h) ?_
    refine cj_seq ?_
    refine cj_region ?_
    refine oj_v (ov_assign rfl rfl) rfl rfl rfl ?_
    refine oj_nil ?_
    refine xj_then ?_
    refine cj_ret ?_
    refine xj_ret (vs := [(.int .i64 (-1))]) () rfl (by rw [ixOf_none (take_all (by omega) hinv)]; rfl) ?_
    exact fun _ h => h

set_option maxRecDepth 100000 in
set_option maxHeartbeats 8000000 in
theorem lib_contains_int (a : Option Addr) (c : Nat) (qs : List Int) (v : Int) (hlen : qs.length ≤ 1099511627776) : Spec Try.prog 124 [(.slice a qs.length c), (.int .i64 v)] [(sl 3 1 a qs.length c (qs.flatMap ei))] (fun x : Unit => .bool (qs.any (fun y => v == y))) (fun x : Unit => [(sl 3 1 a qs.length c (qs.flatMap ei))]) := by
  refine spec_of (fn := Try.f124) Try.func124 rfl rfl rfl fun F s => ?_
  show CJ _ _ _ _ _ [(0, (.slice a qs.length c)), (1, (.int .i64 v))] [(sl 3 1 a qs.length c (qs.flatMap ei)), F]
  refine cj_seq ?_
  refine cj_region ?_
  refine oj_v (ov_assign rfl rfl) rfl rfl rfl ?_
  refine oj_nil ?_
  refine xj_then ?_
  refine cj_seq ?_
  refine cj_region ?_
  refine oj_v (ov_move rfl rfl) rfl rfl rfl ?_
  refine oj_v (ov_move rfl rfl) rfl rfl rfl ?_
  refine oj_e (oe_call rfl rfl rfl Try.func198 rfl rfl (rest := [F]) (lib_index_int a c qs v hlen) (js := [0, 1]) ⟨by decide +kernel, rfl, rfl⟩) rfl rfl rfl (fun _ => ?_)
  refine oj_eq (e' := [(7, (.int .i64 (ixOf (fun y => v == y) qs))), (6, (.int .i64 v)), (5, (.slice a qs.length c)), (4, (.bool false)), (0, (.slice a qs.length c)), (1, (.int .i64 v))]) (l' := [(sl 3 1 a qs.length c (qs.flatMap ei)), F]) rfl rfl ?_
  refine oj_v (ov_geq rfl rfl rfl) rfl rfl rfl ?_
  refine oj_v (ov_assign rfl rfl) rfl rfl rfl ?_
  refine oj_nil ?_
  refine xj_then ?_
  refine cj_weak (e' := [(4, (.bool (decide (0 ≤ (ixOf (fun y => v == y) qs)))))]) (EnvLe.cons rfl (EnvLe.nil _)) (fun _ h => h) ?_
  refine cj_ret ?_
  refine xj_ret (vs := [(.bool (decide (0 ≤ (ixOf (fun y => v == y) qs))))]) () rfl (by rw [ixOf_any]; rfl) ?_
  exact fun _ h => h

set_option maxRecDepth 100000 in
set_option maxHeartbeats 8000000 in
theorem lib_deleteFunc_int (g : FuncId) (fn : Func) (cv : Value) (R : HP) (p : Int → Bool) (hf : Try.prog.funcs[g]? = some fn) (hn : (fn.name == "runtime.NumGoroutine") = false) (hb : fn.body.isNone = false) (hp : ∀ x, Spec Try.prog g [(.int .i64 x), cv] [R] (fun _ : Unit => .bool (p x)) (fun _ => [R])) (a : Option Addr) (c : Nat) (qs : List Int) (hlen : qs.length ≤ 1099511627776) : Spec Try.prog 125 [(.slice a qs.length c), (.func (.func g) #[] #[cv])] [(sl 3 1 a qs.length c (qs.flatMap ei)), R] (fun x : Unit => (.slice a ((qs.filter (fun y => !p y)).length) c)) (fun x : Unit => [(sl 3 1 a ((qs.filter (fun y => !p y)).length) c ((qs.filter (fun y => !p y)).flatMap ei)), R]) := by
  refine spec_of (fn := Try.f125) Try.func125 rfl rfl rfl fun F s => ?_
  show CJ _ _ _ _ _ [(0, (.slice a qs.length c)), (1, (.func (.func g) #[] #[cv]))] [(sl 3 1 a qs.length c (qs.flatMap ei)), R, F]
  refine cj_seq ?_
  refine cj_region ?_
  refine oj_v (ov_assign rfl rfl) rfl rfl rfl ?_
  refine oj_nil ?_
  refine xj_then ?_
  refine cj_seq ?_
  refine cj_region ?_
  refine oj_v (ov_move rfl rfl) rfl rfl rfl ?_
  refine oj_v (ov_move rfl rfl) rfl rfl rfl ?_
  refine oj_e (oe_call rfl rfl rfl Try.func199 rfl rfl (rest := [F]) (lib_indexFunc_int g fn cv R p hf hn hb hp a c qs hlen) (js := [0, 1, 2]) ⟨by decide +kernel, rfl, rfl⟩) rfl rfl rfl (fun _ => ?_)
  refine oj_eq (e' := [(10, (.int .i64 (ixOf p qs))), (9, (.func (.func g) #[] #[cv])), (8, (.slice a qs.length c)), (4, (.slice none 0 0)), (0, (.slice a qs.length c)), (1, (.func (.func g) #[] #[cv]))]) (l' := [(sl 3 1 a qs.length c (qs.flatMap ei)), R, F]) rfl rfl ?_
  refine oj_v (ov_assign rfl rfl) rfl rfl rfl ?_
  refine oj_nil ?_
  refine xj_then ?_
  refine cj_weak (e' := [(5, (.int .i64 (ixOf p qs))), (4, (.slice none 0 0)), (0, (.slice a qs.length c)), (1, (.func (.func g) #[] #[cv]))]) (EnvLe.cons rfl (EnvLe.cons rfl (EnvLe.cons rfl (EnvLe.cons rfl (EnvLe.nil _))))) (fun _ h => h) ?_
  refine cj_seq ?_
  refine cj_seq ?_
  refine cj_region ?_
  refine oj_v (ov_move rfl rfl) rfl rfl rfl ?_
  refine oj_v (ov_eql rfl rfl rfl) rfl rfl rfl ?_
  refine oj_nil ?_
  refine xj_then ?_
  refine cj_cond (b := (ixOf p qs) == (-1)) rfl (fun h1 => ?_) (fun h1 => ?_)
  · have c2 : (ixOf p qs) = -1 := by simpa using h1
    refine cj_seq ?_
    refine cj_region ?_
    refine oj_v (ov_move rfl rfl) rfl rfl rfl ?_
    refine oj_v (ov_assign rfl rfl) rfl rfl rfl ?_
    refine oj_nil ?_
    refine xj_then ?_
    refine cj_weak (e' := [(4, (.slice a qs.length c)), (5, (.int .i64 (ixOf p qs))), (0, (.slice a qs.length c)), (1, (.func (.func g) #[] #[cv]))]) (EnvLe.cons rfl (EnvLe.cons rfl (EnvLe.cons rfl (EnvLe.cons rfl (EnvLe.nil _))))) (fun _ h => h) ?_
    refine cj_ret ?_
    refine xj_then_other (by simp) ?_
    refine xj_ret (vs := [(.slice a qs.length c)]) () rfl (by rw [ixOf_no c2]; rfl) ?_
    rw [ixOf_no c2]
    exact fun _ h => h
  · have c3 : (ixOf p qs) ≠ -1 := by simpa using h1
    refine cj_skip ?_
    refine xj_then ?_
    refine cj_seq ?_
    refine cj_seq ?_
    obtain ⟨i0, x0, hi0, hx0, hp0, hn0⟩ := ixOf_some c3
    have hlt0 : i0 < qs.length := (List.getElem?_eq_some_iff.1 hx0).1
    refine cj_eq (e' := [(12, (.bool ((i0 : Int) == (-1)))), (11, (.int .i64 (i0 : Int))), (5, (.int .i64 (i0 : Int))), (4, (.slice none 0 0)), (0, (.slice a qs.length c)), (1, (.func (.func g) #[] #[cv]))]) (l' := [(sl 3 1 a qs.length c (qs.flatMap ei)), R, F]) (by rw [hi0]) (rfl) ?_
    refine cj_fact (sat_know 0 rfl (fun h hs => sl_some hs (by omega))) (fun ⟨g4, hg4⟩ => ?_)
    subst hg4
    refine cj_fact (sat_know 0 rfl (fun h hs => sl_le hs)) (fun ⟨hcap, hcap_m⟩ => ?_)
    refine cj_region ?_
    refine oj_v (ov_move rfl rfl) rfl rfl rfl ?_
    refine oj_v (ov_add rfl rfl rfl (by omega)) rfl rfl rfl ?_
    refine oj_v (ov_assign rfl rfl) rfl rfl rfl ?_
    refine oj_nil ?_
    refine xj_then ?_
    refine cj_weak (e' := [(6, (.int .i64 ((i0 : Int) + 1))), (5, (.int .i64 (i0 : Int))), (4, (.slice none 0 0)), (0, (.slice (some ⟨g4, 0, none⟩) qs.length c)), (1, (.func (.func g) #[] #[cv]))]) (EnvLe.cons rfl (EnvLe.cons rfl (EnvLe.cons rfl (EnvLe.cons rfl (EnvLe.cons rfl (EnvLe.nil _)))))) (fun _ h => h) ?_
    refine cj_block ?_
    refine cj_loop (fun x : Nat × Nat × (List Int) => [(0, (.slice (some ⟨g4, 0, none⟩) qs.length c)), (1, (.func (.func g) #[] #[cv])), (5, (.int .i64 (x.1 : Int))), (6, (.int .i64 (x.2.1 : Int)))]) (fun x : Nat × Nat × (List Int) => [(fact (DelInv p qs x.1 x.2.1 x.2.2)), (sl 3 1 (some ⟨g4, 0, none⟩) qs.length c (x.2.2.flatMap ei)), R, F]) (fun x : Nat × Nat × (List Int) => qs.length - x.2.1) ⟨i0, (i0 + 1), qs⟩ (EnvLe.cons rfl (EnvLe.cons rfl (EnvLe.cons rfl (EnvLe.cons rfl (EnvLe.nil _))))) (fun h hs => Sat.fact_in (del_start hx0 hp0 hn0) (sat_sub [0, 1, 2] [] (by decide +kernel) rfl rfl h hs)) ?_
    rintro ⟨i, j, cur⟩
    refine cj_eq (e' := [(0, (.slice (some ⟨g4, 0, none⟩) qs.length c)), (1, (.func (.func g) #[] #[cv])), (5, (.int .i64 (i : Int))), (6, (.int .i64 (j : Int)))]) (l' := [(fact (DelInv p qs i j cur)), (sl 3 1 (some ⟨g4, 0, none⟩) qs.length c (cur.flatMap ei)), R, F]) rfl rfl ?_
    refine cj_fact (sat_fact 0 rfl) (fun hinv => ?_)
    refine cj_sat (l' := [(sl 3 1 (some ⟨g4, 0, none⟩) qs.length c (cur.flatMap ei)), R, F]) (sat_sub [1, 2, 3] [0] (by decide +kernel) rfl rfl) ?_
    have hij : i < j := hinv.2.1
    have hjn : j ≤ qs.length := hinv.2.2.1
    have hcl : cur.length = qs.length := hinv.1
    refine cj_seq ?_
    refine cj_seq ?_
    refine cj_region ?_
    refine oj_v (ov_move rfl rfl) rfl rfl rfl ?_
    refine oj_v (ov_move rfl rfl) rfl rfl rfl ?_
    refine oj_v (ov_lenL rfl rfl rfl Try.underlying72) rfl rfl rfl ?_
    refine oj_v (ov_lss rfl rfl rfl) rfl rfl rfl ?_
    refine oj_nil ?_
    refine xj_then ?_
    refine cj_weak (e' := [(19, (.bool (decide ((j : Int) < (qs.length : Int))))), (0, (.slice (some ⟨g4, 0, none⟩) qs.length c)), (1, (.func (.func g) #[] #[cv])), (5, (.int .i64 (i : Int))), (6, (.int .i64 (j : Int)))]) (EnvLe.cons rfl (EnvLe.cons rfl (EnvLe.cons rfl (EnvLe.cons rfl (EnvLe.cons rfl (EnvLe.nil _)))))) (fun _ h => h) ?_
    refine cj_cond (b := decide ((j : Int) < (qs.length : Int))) rfl (fun h5 => ?_) (fun h5 => ?_)
    · have c6 : (j : Int) < (qs.length : Int) := of_decide_eq_true h5
      refine cj_skip ?_
      refine xj_then ?_
      refine cj_seq ?_
      refine cj_block ?_
      refine cj_seq ?_
      obtain ⟨x, hx, hxq⟩ := del_at hinv (by omega)
      refine cj_region ?_
      refine oj_v (ov_move rfl rfl) rfl rfl rfl ?_
      refine oj_v (ov_move rfl rfl) rfl rfl rfl ?_
      refine oj_v (ov_indexAddr0 (j := j) rfl rfl rfl Try.underlying72 T_s3 (by omega) (by omega)) rfl rfl rfl ?_
      refine oj_v (ov_load1 (v := (.int .i64 x)) rfl rfl T_o3 (rd_el (i := 0) (j := j) 0 ei_len rfl hx rfl)) rfl rfl rfl ?_
      refine oj_v (ov_assign rfl rfl) rfl rfl rfl ?_
      refine oj_nil ?_
      refine xj_then ?_
      refine cj_weak (e' := [(7, (.int .i64 x)), (0, (.slice (some ⟨g4, 0, none⟩) qs.length c)), (1, (.func (.func g) #[] #[cv])), (5, (.int .i64 (i : Int))), (6, (.int .i64 (j : Int)))]) (EnvLe.cons rfl (EnvLe.cons rfl (EnvLe.cons rfl (EnvLe.cons rfl (EnvLe.cons rfl (EnvLe.nil _)))))) (fun _ h => h) ?_
      refine cj_seq ?_
      refine cj_region ?_
      refine oj_v (ov_move rfl rfl) rfl rfl rfl ?_
      refine oj_v (ov_move rfl rfl) rfl rfl rfl ?_
      refine oj_e (oe_callv rfl rfl rfl rfl rfl hf hn hb (rest := [(sl 3 1 (some ⟨g4, 0, none⟩) qs.length c (cur.flatMap ei)), F]) (hp x) (js := [1, 0, 2]) ⟨by decide +kernel, rfl, rfl⟩) rfl rfl rfl (fun _ => ?_)
      refine oj_eq (e' := [(28, (.bool (p x))), (27, (.int .i64 x)), (26, (.func (.func g) #[] #[cv])), (7, (.int .i64 x)), (0, (.slice (some ⟨g4, 0, none⟩) qs.length c)), (1, (.func (.func g) #[] #[cv])), (5, (.int .i64 (i : Int))), (6, (.int .i64 (j : Int)))]) (l' := [R, (sl 3 1 (some ⟨g4, 0, none⟩) qs.length c (cur.flatMap ei)), F]) rfl rfl ?_
      refine oj_v (ov_not rfl rfl) rfl rfl rfl ?_
      refine oj_nil ?_
      refine xj_then ?_
      refine cj_weak (e' := [(29, (.bool (!(p x)))), (7, (.int .i64 x)), (0, (.slice (some ⟨g4, 0, none⟩) qs.length c)), (1, (.func (.func g) #[] #[cv])), (5, (.int .i64 (i : Int))), (6, (.int .i64 (j : Int)))]) (EnvLe.cons rfl (EnvLe.cons rfl (EnvLe.cons rfl (EnvLe.cons rfl (EnvLe.cons rfl (EnvLe.cons rfl (EnvLe.nil _))))))) (fun _ h => h) ?_
      refine cj_cond (b := !(p x)) rfl (fun h7 => ?_) (fun h7 => ?_)
      · have h8 : (p x) = false := by simpa using h7
        have c9 := h8
        refine cj_seq ?_
        refine cj_region ?_
        refine oj_v (ov_move rfl rfl) rfl rfl rfl ?_
        refine oj_v (ov_move rfl rfl) rfl rfl rfl ?_
        refine oj_v (ov_move rfl rfl) rfl rfl rfl ?_
        refine oj_v (ov_indexAddr0 (j := i) rfl rfl rfl Try.underlying72 T_s3 (by omega) (by omega)) rfl rfl rfl ?_
        refine oj_e0 (oe_store1_sl (i := 1) rfl rfl rfl T_o3 rfl rfl (by omega) (by omega)) rfl rfl (fun _ => ?_)
        refine oj_eq (e' := [(33, (.pointer (some ⟨g4, (i * 1), none⟩))), (32, (.int .i64 x)), (31, (.int .i64 (i : Int))), (30, (.slice (some ⟨g4, 0, none⟩) qs.length c)), (29, (.bool (!(p x)))), (7, (.int .i64 x)), (0, (.slice (some ⟨g4, 0, none⟩) qs.length c)), (1, (.func (.func g) #[] #[cv])), (5, (.int .i64 (i : Int))), (6, (.int .i64 (j : Int)))]) (l' := [R, (sl 3 1 (some ⟨g4, 0, none⟩) qs.length c (splice (cur.flatMap ei) (i * 1) [(.int .i64 x)])), F]) rfl rfl ?_
        refine oj_eq (l' := [R, (sl 3 1 (some ⟨g4, 0, none⟩) qs.length c ((cur.set i x).flatMap ei)), F]) rfl (by rw [← splice_flat ei_len cur i x (by omega)]; rfl) ?_
        refine oj_nil ?_
        refine xj_then ?_
        refine cj_weak (e' := [(0, (.slice (some ⟨g4, 0, none⟩) qs.length c)), (1, (.func (.func g) #[] #[cv])), (5, (.int .i64 (i : Int))), (6, (.int .i64 (j : Int)))]) (EnvLe.cons rfl (EnvLe.cons rfl (EnvLe.cons rfl (EnvLe.cons rfl (EnvLe.nil _))))) (fun _ h => h) ?_
        refine cj_region ?_
        refine oj_v (ov_move rfl rfl) rfl rfl rfl ?_
        refine oj_v (ov_add rfl rfl rfl (by omega)) rfl rfl rfl ?_
        refine oj_v (ov_assign rfl rfl) rfl rfl rfl ?_
        refine oj_nil ?_
        refine xj_block_normal ?_
        refine xj_then ?_
        refine cj_weak (e' := [(5, (.int .i64 ((i : Int) + 1))), (0, (.slice (some ⟨g4, 0, none⟩) qs.length c)), (1, (.func (.func g) #[] #[cv])), (6, (.int .i64 (j : Int)))]) (EnvLe.cons rfl (EnvLe.cons rfl (EnvLe.cons rfl (EnvLe.cons rfl (EnvLe.nil _))))) (fun _ h => h) ?_
        refine cj_region ?_
        refine oj_v (ov_move rfl rfl) rfl rfl rfl ?_
        refine oj_v (ov_add rfl rfl rfl (by omega)) rfl rfl rfl ?_
        refine oj_v (ov_assign rfl rfl) rfl rfl rfl ?_
        refine oj_nil ?_
        exact xj_round ⟨(i + 1), (j + 1), (cur.set i x)⟩ (by dsimp only; omega) (EnvLe.cons rfl (EnvLe.cons rfl (EnvLe.cons rfl (EnvLe.cons rfl (EnvLe.nil _))))) (fun h hs => Sat.fact_in (del_keep hinv hxq (by simpa using h7)) (sat_sub [1, 0, 2] [] (by decide +kernel) rfl rfl h hs))
      · have h10 : (p x) = true := by simpa using h7
        have c11 := h10
        refine cj_skip ?_
        refine xj_block_normal ?_
        refine xj_then ?_
        refine cj_region ?_
        refine oj_v (ov_move rfl rfl) rfl rfl rfl ?_
        refine oj_v (ov_add rfl rfl rfl (by omega)) rfl rfl rfl ?_
        refine oj_v (ov_assign rfl rfl) rfl rfl rfl ?_
        refine oj_nil ?_
        exact xj_round ⟨i, (j + 1), cur⟩ (by dsimp only; omega) (EnvLe.cons rfl (EnvLe.cons rfl (EnvLe.cons rfl (EnvLe.cons rfl (EnvLe.nil _))))) (fun h hs => Sat.fact_in (del_skip hinv hxq (by simpa using h7)) (sat_sub [1, 0, 2] [] (by decide +kernel) rfl rfl h hs))
    · have c12 : ¬ ((j : Int) < (qs.length : Int)) := of_decide_eq_false h5
      refine cj_exit ?_
      refine xj_then_other (by simp) ?_
      refine xj_round_other (by simp) ?_
      refine xj_block_exit ?_
      refine xj_then ?_
      refine cj_weak (e' := [(0, (.slice (some ⟨g4, 0, none⟩) qs.length c)), (5, (.int .i64 (i : Int)))]) (EnvLe.cons rfl (EnvLe.cons rfl (EnvLe.nil _))) (fun _ h => h) ?_
      refine cj_seq ?_
      refine cj_region ?_
      refine oj_v (ov_move rfl rfl) rfl rfl rfl ?_
      refine oj_v (ov_move rfl rfl) rfl rfl rfl ?_
      refine oj_v (ov_cut (i := i) (j := qs.length) (vl := (some (.int .i64 (i : Int)))) (vh := none) rfl rfl Try.underlying72 T_s3 rfl rfl (by first | rfl | (unfold bnd; omega)) (by first | rfl | (unfold bnd; omega)) (by omega) (by omega)) rfl rfl rfl ?_
      refine oj_e0 (oe_clear (i := 0) (j := i) (a := (some ⟨g4, 0, none⟩)) (m := qs.length) (c := c) (k := 1) rfl rfl Try.underlying72 T_z3 rfl (by simp [Value.cells, Value.oneCell']) rfl (by omega) (by decide)) rfl rfl (fun _ => ?_)
      refine oj_eq (e' := [(38, (.slice (cutAt (some ⟨g4, 0, none⟩) c i 1) (qs.length - i) (c - i))), (37, (.int .i64 (i : Int))), (36, (.slice (some ⟨g4, 0, none⟩) qs.length c)), (0, (.slice (some ⟨g4, 0, none⟩) qs.length c)), (5, (.int .i64 (i : Int)))]) (l' := [(sl 3 1 (some ⟨g4, 0, none⟩) i c ((cur.flatMap ei).take (i * 1))), R, F]) rfl rfl ?_
      refine oj_nil ?_
      refine xj_then ?_
      refine cj_weak (e' := [(0, (.slice (some ⟨g4, 0, none⟩) qs.length c)), (5, (.int .i64 (i : Int)))]) (EnvLe.cons rfl (EnvLe.cons rfl (EnvLe.nil _))) (fun _ h => h) ?_
      refine cj_seq ?_
      refine cj_region ?_
      refine oj_v (ov_move rfl rfl) rfl rfl rfl ?_
      refine oj_v (ov_move rfl rfl) rfl rfl rfl ?_
      refine oj_v (ov_cut (i := 0) (j := i) (vl := none) (vh := (some (.int .i64 (i : Int)))) rfl rfl Try.underlying72 T_s3 rfl rfl (by first | rfl | (unfold bnd; omega)) (by first | rfl | (unfold bnd; omega)) (by omega) (by omega)) rfl rfl rfl ?_
      refine oj_head (v' := (.slice (some ⟨g4, 0, none⟩) i c)) (by rw [cutAt_some0]; simp only [Nat.sub_zero]) ?_
      refine oj_v (ov_assign rfl rfl) rfl rfl rfl ?_
      refine oj_nil ?_
      refine xj_then ?_
      refine cj_weak (e' := [(4, (.slice (some ⟨g4, 0, none⟩) i c))]) (EnvLe.cons rfl (EnvLe.nil _)) (fun _ h => h) ?_
      refine cj_ret ?_
      obtain ⟨he1, he2⟩ := del_end hinv (by omega)
      refine xj_ret (vs := [(.slice (some ⟨g4, 0, none⟩) i c)]) () rfl (by rw [← he1]; rfl) ?_
      rw [← he1, ← he2, ← take_flat ei_len]
      exact fun _ h => h

set_option maxRecDepth 100000 in
set_option maxHeartbeats 8000000 in
theorem lib_indexFunc_wt (g : FuncId) (fn : Func) (cv : Value) (R : HP) (p : Wt → Bool) (hf : Try.prog.funcs[g]? = some fn) (hn : (fn.name == "runtime.NumGoroutine") = false) (hb : fn.body.isNone = false) (hp : ∀ x, Spec Try.prog g [(.agg #[(.int .i64 x.session), (.int .i64 x.seq), (.bool x.reader)]), cv] [R] (fun _ : Unit => .bool (p x)) (fun _ => [R])) (a : Option Addr) (c : Nat) (qs : List Wt) (hlen : qs.length ≤ 1099511627776) : Spec Try.prog 202 [(.slice a qs.length c), (.func (.func g) #[] #[cv])] [(sl 197 3 a qs.length c (qs.flatMap encW)), R] (fun x : Unit => .int .i64 (ixOf p qs)) (fun x : Unit => [(sl 197 3 a qs.length c (qs.flatMap encW)), R]) := by
  refine spec_of (fn := Try.f202) Try.func202 rfl rfl rfl fun F s => ?_
  show CJ _ _ _ _ _ [(0, (.slice a qs.length c)), (1, (.func (.func g) #[] #[cv]))] [(sl 197 3 a qs.length c (qs.flatMap encW)), R, F]
  refine cj_seq ?_
  refine cj_region ?_
  refine oj_v (ov_assign rfl rfl) rfl rfl rfl ?_
  refine oj_nil ?_
  refine xj_then ?_
  refine cj_seq ?_
  refine cj_seq ?_
  refine cj_region ?_
  refine oj_v (ov_move rfl rfl) rfl rfl rfl ?_
  refine oj_v (ov_lenL rfl rfl rfl Try.underlying200) rfl rfl rfl ?_
  refine oj_v (ov_move rfl rfl) rfl rfl rfl ?_
  refine oj_nil ?_
  refine xj_then ?_
  refine cj_block ?_
  refine cj_loop (fun x : Nat => [(0, (.slice a qs.length c)), (1, (.func (.func g) #[] #[cv])), (7, (.int .i64 (qs.length : Int))), (8, (.int .i64 (x : Int)))]) (fun x : Nat => [(fact (∀ y ∈ qs.take x, p y = false)), (sl 197 3 a qs.length c (qs.flatMap encW)), R, F]) (fun x : Nat => qs.length - x) 0 (EnvLe.cons rfl (EnvLe.cons rfl (EnvLe.cons rfl (EnvLe.cons rfl (EnvLe.nil _))))) (fun h hs => Sat.fact_in (by simp) (sat_sub [0, 1, 2] [] (by decide +kernel) rfl rfl h hs)) ?_
  rintro i
  refine cj_eq (e' := [(0, (.slice a qs.length c)), (1, (.func (.func g) #[] #[cv])), (7, (.int .i64 (qs.length : Int))), (8, (.int .i64 (i : Int)))]) (l' := [(fact (∀ y ∈ qs.take i, p y = false)), (sl 197 3 a qs.length c (qs.flatMap encW)), R, F]) rfl rfl ?_
  refine cj_fact (sat_fact 0 rfl) (fun hinv => ?_)
  refine cj_sat (l' := [(sl 197 3 a qs.length c (qs.flatMap encW)), R, F]) (sat_sub [1, 2, 3] [0] (by decide +kernel) rfl rfl) ?_
  refine cj_seq ?_
  refine cj_region ?_
  refine oj_v (ov_lss rfl rfl rfl) rfl rfl rfl ?_
  refine oj_nil ?_
  refine xj_then ?_
  refine cj_seq ?_
  refine cj_cond (b := decide ((i : Int) < (qs.length : Int))) rfl (fun h1 => ?_) (fun h1 => ?_)
  · have c2 : (i : Int) < (qs.length : Int) := of_decide_eq_true h1
    refine cj_skip ?_
    refine xj_then ?_
    refine cj_seq ?_
    refine cj_block ?_
    refine cj_seq ?_
    refine cj_region ?_
    refine oj_v (ov_move rfl rfl) rfl rfl rfl ?_
    refine oj_v (ov_assign rfl rfl) rfl rfl rfl ?_
    refine oj_nil ?_
    refine xj_then ?_
    refine cj_seq ?_
    obtain ⟨x, hx⟩ := at_lt (qs := qs) (i := i) (by omega)
    refine cj_fact (sat_know 0 rfl (fun h hs => sl_some hs (by omega))) (fun ⟨g3, hg3⟩ => ?_)
    subst hg3
    refine cj_region ?_
    refine oj_v (ov_move rfl rfl) rfl rfl rfl ?_
    refine oj_v (ov_move rfl rfl) rfl rfl rfl ?_
    refine oj_v (ov_move rfl rfl) rfl rfl rfl ?_
    refine oj_v (ov_indexAddr0 (j := i) rfl rfl rfl Try.underlying200 T_s197 (by omega) (by omega)) rfl rfl rfl ?_
    refine oj_v (ov_loadn (cs := [(.int .i64 x.session), (.int .i64 x.seq), (.bool x.reader)]) rfl rfl T_a197 (rds_el (i := 0) (j := i) 0 encW_len rfl hx rfl)) rfl rfl rfl ?_
    refine oj_e (oe_callv rfl rfl rfl rfl rfl hf hn hb (rest := [(sl 197 3 (some ⟨g3, 0, none⟩) qs.length c (qs.flatMap encW)), F]) (hp x) (js := [1, 0, 2]) ⟨by decide +kernel, rfl, rfl⟩) rfl rfl rfl (fun _ => ?_)
    refine oj_eq (e' := [(16, (.bool (p x))), (15, (.agg #[(.int .i64 x.session), (.int .i64 x.seq), (.bool x.reader)])), (14, (.pointer (some ⟨g3, (i * 3), none⟩))), (13, (.int .i64 (i : Int))), (12, (.slice (some ⟨g3, 0, none⟩) qs.length c)), (11, (.func (.func g) #[] #[cv])), (5, (.int .i64 (i : Int))), (10, (.int .i64 (i : Int))), (9, (.bool (decide ((i : Int) < (qs.length : Int))))), (0, (.slice (some ⟨g3, 0, none⟩) qs.length c)), (1, (.func (.func g) #[] #[cv])), (7, (.int .i64 (qs.length : Int))), (8, (.int .i64 (i : Int)))]) (l' := [R, (sl 197 3 (some ⟨g3, 0, none⟩) qs.length c (qs.flatMap encW)), F]) rfl rfl ?_
    refine oj_nil ?_
    refine xj_then ?_
    refine cj_weak (e' := [(16, (.bool (p x))), (5, (.int .i64 (i : Int))), (0, (.slice (some ⟨g3, 0, none⟩) qs.length c)), (1, (.func (.func g) #[] #[cv])), (7, (.int .i64 (qs.length : Int))), (8, (.int .i64 (i : Int)))]) (EnvLe.cons rfl (EnvLe.cons rfl (EnvLe.cons rfl (EnvLe.cons rfl (EnvLe.cons rfl (EnvLe.cons rfl (EnvLe.nil _))))))) (fun _ h => h) ?_
    refine cj_cond (b := p x) rfl (fun h4 => ?_) (fun h4 => ?_)
    · have c5 := h4
      refine cj_seq ?_
      refine cj_region ?_
      refine oj_v (ov_move rfl rfl) rfl rfl rfl ?_
      refine oj_v (ov_assign rfl rfl) rfl rfl rfl ?_
      refine oj_nil ?_
      refine xj_then ?_
      refine cj_weak (e' := [(4, (.int .i64 (i : Int))), (0, (.slice (some ⟨g3, 0, none⟩) qs.length c)), (1, (.func (.func g) #[] #[cv])), (7, (.int .i64 (qs.length : Int))), (8, (.int .i64 (i : Int)))]) (EnvLe.cons rfl (EnvLe.cons rfl (EnvLe.cons rfl (EnvLe.cons rfl (EnvLe.cons rfl (EnvLe.nil _)))))) (fun _ h => h) ?_
      refine cj_ret ?_
      refine xj_block_ret ?_
      refine xj_then_other (by simp) ?_
      refine xj_round_other (by simp) ?_
      refine xj_block_ret ?_
      refine xj_then_other (by simp) ?_
      refine xj_ret (vs := [(.int .i64 (i : Int))]) () rfl (by rw [ixOf_hit hx (by simpa using h4) hinv]; rfl) ?_
      exact sat_sub [1, 0, 2] [] (by decide +kernel) rfl rfl
    · have c6 := h4
      refine cj_skip ?_
      refine xj_block_normal ?_
      refine xj_then ?_
      refine cj_region ?_
      refine oj_v (ov_add rfl rfl rfl (by omega)) rfl rfl rfl ?_
      refine oj_v (ov_move rfl rfl) rfl rfl rfl ?_
      refine oj_nil ?_
      exact xj_round (i + 1) (by omega) (EnvLe.cons rfl (EnvLe.cons rfl (EnvLe.cons rfl (EnvLe.cons rfl (EnvLe.nil _))))) (fun h hs => Sat.fact_in (take_step hx (by simpa using h4) hinv) (sat_sub [1, 0, 2] [] (by decide +kernel) rfl rfl h hs))
  · have c7 : ¬ ((i : Int) < (qs.length : Int)) := of_decide_eq_false h1
    refine cj_exit ?_
    refine xj_then_other (by simp) ?_
    refine xj_round_other (by simp) ?_
    refine xj_block_exit ?_
    refine xj_then ?_
    refine cj_weak (e' := []) (EnvLe.nil _) (fun _ h => h) ?_
    refine cj_seq ?_
    refine cj_region ?_
    refine oj_v (ov_assign rfl rfl) rfl rfl rfl ?_
    refine oj_nil ?_
    refine xj_then ?_
    refine cj_ret ?_
    refine xj_ret (vs := [(.int .i64 (-1))]) () rfl (by rw [ixOf_none (take_all (by omega) hinv)]; rfl) ?_
    exact fun _ h => h

set_option maxRecDepth 100000 in
set_option maxHeartbeats 8000000 in
theorem lib_containsFunc_wt (g : FuncId) (fn : Func) (cv : Value) (R : HP) (p : Wt → Bool) (hf : Try.prog.funcs[g]? = some fn) (hn : (fn.name == "runtime.NumGoroutine") = false) (hb : fn.body.isNone = false) (hp : ∀ x, Spec Try.prog g [(.agg #[(.int .i64 x.session), (.int .i64 x.seq), (.bool x.reader)]), cv] [R] (fun _ : Unit => .bool (p x)) (fun _ => [R])) (a : Option Addr) (c : Nat) (qs : List Wt) (hlen : qs.length ≤ 1099511627776) : Spec Try.prog 196 [(.slice a qs.length c), (.func (.func g) #[] #[cv])] [(sl 197 3 a qs.length c (qs.flatMap encW)), R] (fun x : Unit => .bool (qs.any p)) (fun x : Unit => [(sl 197 3 a qs.length c (qs.flatMap encW)), R]) := by
  refine spec_of (fn := Try.f196) Try.func196 rfl rfl rfl fun F s => ?_
  show CJ _ _ _ _ _ [(0, (.slice a qs.length c)), (1, (.func (.func g) #[] #[cv]))] [(sl 197 3 a qs.length c (qs.flatMap encW)), R, F]
  refine cj_seq ?_
  refine cj_region ?_
  refine oj_v (ov_assign rfl rfl) rfl rfl rfl ?_
  refine oj_nil ?_
  refine xj_then ?_
  refine cj_seq ?_
  refine cj_region ?_
  refine oj_v (ov_move rfl rfl) rfl rfl rfl ?_
  refine oj_v (ov_move rfl rfl) rfl rfl rfl ?_
  refine oj_e (oe_call rfl rfl rfl Try.func202 rfl rfl (rest := [F]) (lib_indexFunc_wt g fn cv R p hf hn hb hp a c qs hlen) (js := [0, 1, 2]) ⟨by decide +kernel, rfl, rfl⟩) rfl rfl rfl (fun _ => ?_)
  refine oj_eq (e' := [(7, (.int .i64 (ixOf p qs))), (6, (.func (.func g) #[] #[cv])), (5, (.slice a qs.length c)), (4, (.bool false)), (0, (.slice a qs.length c)), (1, (.func (.func g) #[] #[cv]))]) (l' := [(sl 197 3 a qs.length c (qs.flatMap encW)), R, F]) rfl rfl ?_
  refine oj_v (ov_geq rfl rfl rfl) rfl rfl rfl ?_
  refine oj_v (ov_assign rfl rfl) rfl rfl rfl ?_
  refine oj_nil ?_
  refine xj_then ?_
  refine cj_weak (e' := [(4, (.bool (decide (0 ≤ (ixOf p qs)))))]) (EnvLe.cons rfl (EnvLe.nil _)) (fun _ h => h) ?_
  refine cj_ret ?_
  refine xj_ret (vs := [(.bool (decide (0 ≤ (ixOf p qs))))]) () rfl (by rw [ixOf_any]; rfl) ?_
  exact fun _ h => h

set_option maxRecDepth 100000 in
set_option maxHeartbeats 8000000 in
theorem lib_deleteFunc_wt (g : FuncId) (fn : Func) (cv : Value) (R : HP) (p : Wt → Bool) (hf : Try.prog.funcs[g]? = some fn) (hn : (fn.name == "runtime.NumGoroutine") = false) (hb : fn.body.isNone = false) (hp : ∀ x, Spec Try.prog g [(.agg #[(.int .i64 x.session), (.int .i64 x.seq), (.bool x.reader)]), cv] [R] (fun _ : Unit => .bool (p x)) (fun _ => [R])) (a : Option Addr) (c : Nat) (qs : List Wt) (hlen : qs.length ≤ 1099511627776) : Spec Try.prog 131 [(.slice a qs.length c), (.func (.func g) #[] #[cv])] [(sl 197 3 a qs.length c (qs.flatMap encW)), R] (fun x : Unit => (.slice a ((qs.filter (fun y => !p y)).length) c)) (fun x : Unit => [(sl 197 3 a ((qs.filter (fun y => !p y)).length) c ((qs.filter (fun y => !p y)).flatMap encW)), R]) := by
  refine spec_of (fn := Try.f131) Try.func131 rfl rfl rfl fun F s => ?_
  show CJ _ _ _ _ _ [(0, (.slice a qs.length c)), (1, (.func (.func g) #[] #[cv]))] [(sl 197 3 a qs.length c (qs.flatMap encW)), R, F]
  refine cj_seq ?_
  refine cj_region ?_
  refine oj_v (ov_assign rfl rfl) rfl rfl rfl ?_
  refine oj_nil ?_
  refine xj_then ?_
  refine cj_seq ?_
  refine cj_region ?_
  refine oj_v (ov_move rfl rfl) rfl rfl rfl ?_
  refine oj_v (ov_move rfl rfl) rfl rfl rfl ?_
  refine oj_e (oe_call rfl rfl rfl Try.func202 rfl rfl (rest := [F]) (lib_indexFunc_wt g fn cv R p hf hn hb hp a c qs hlen) (js := [0, 1, 2]) ⟨by decide +kernel, rfl, rfl⟩) rfl rfl rfl (fun _ => ?_)
  refine oj_eq (e' := [(10, (.int .i64 (ixOf p qs))), (9, (.func (.func g) #[] #[cv])), (8, (.slice a qs.length c)), (4, (.slice none 0 0)), (0, (.slice a qs.length c)), (1, (.func (.func g) #[] #[cv]))]) (l' := [(sl 197 3 a qs.length c (qs.flatMap encW)), R, F]) rfl rfl ?_
  refine oj_v (ov_assign rfl rfl) rfl rfl rfl ?_
  refine oj_nil ?_
  refine xj_then ?_
  refine cj_weak (e' := [(5, (.int .i64 (ixOf p qs))), (4, (.slice none 0 0)), (0, (.slice a qs.length c)), (1, (.func (.func g) #[] #[cv]))]) (EnvLe.cons rfl (EnvLe.cons rfl (EnvLe.cons rfl (EnvLe.cons rfl (EnvLe.nil _))))) (fun _ h => h) ?_
  refine cj_seq ?_
  refine cj_seq ?_
  refine cj_region ?_
  refine oj_v (ov_move rfl rfl) rfl rfl rfl ?_
  refine oj_v (ov_eql rfl rfl rfl) rfl rfl rfl ?_
  refine oj_nil ?_
  refine xj_then ?_
  refine cj_cond (b := (ixOf p qs) == (-1)) rfl (fun h1 => ?_) (fun h1 => ?_)
  · have c2 : (ixOf p qs) = -1 := by simpa using h1
    refine cj_seq ?_
    refine cj_region ?_
    refine oj_v (ov_move rfl rfl) rfl rfl rfl ?_
    refine oj_v (ov_assign rfl rfl) rfl rfl rfl ?_
    refine oj_nil ?_
    refine xj_then ?_
    refine cj_weak (e' := [(4, (.slice a qs.length c)), (5, (.int .i64 (ixOf p qs))), (0, (.slice a qs.length c)), (1, (.func (.func g) #[] #[cv]))]) (EnvLe.cons rfl (EnvLe.cons rfl (EnvLe.cons rfl (EnvLe.cons rfl (EnvLe.nil _))))) (fun _ h => h) ?_
    refine cj_ret ?_
    refine xj_then_other (by simp) ?_
    refine xj_ret (vs := [(.slice a qs.length c)]) () rfl (by rw [ixOf_no c2]; rfl) ?_
    rw [ixOf_no c2]
    exact fun _ h => h
  · have c3 : (ixOf p qs) ≠ -1 := by simpa using h1
    refine cj_skip ?_
    refine xj_then ?_
    refine cj_seq ?_
    refine cj_seq ?_
    obtain ⟨i0, x0, hi0, hx0, hp0, hn0⟩ := ixOf_some c3
    have hlt0 : i0 < qs.length := (List.getElem?_eq_some_iff.1 hx0).1
    refine cj_eq (e' := [(12, (.bool ((i0 : Int) == (-1)))), (11, (.int .i64 (i0 : Int))), (5, (.int .i64 (i0 : Int))), (4, (.slice none 0 0)), (0, (.slice a qs.length c)), (1, (.func (.func g) #[] #[cv]))]) (l' := [(sl 197 3 a qs.length c (qs.flatMap encW)), R, F]) (by rw [hi0]) (rfl) ?_
    refine cj_fact (sat_know 0 rfl (fun h hs => sl_some hs (by omega))) (fun ⟨g4, hg4⟩ => ?_)
    subst hg4
    refine cj_fact (sat_know 0 rfl (fun h hs => sl_le hs)) (fun ⟨hcap, hcap_m⟩ => ?_)
    refine cj_region ?_
    refine oj_v (ov_move rfl rfl) rfl rfl rfl ?_
    refine oj_v (ov_add rfl rfl rfl (by omega)) rfl rfl rfl ?_
    refine oj_v (ov_assign rfl rfl) rfl rfl rfl ?_
    refine oj_nil ?_
    refine xj_then ?_
    refine cj_weak (e' := [(6, (.int .i64 ((i0 : Int) + 1))), (5, (.int .i64 (i0 : Int))), (4, (.slice none 0 0)), (0, (.slice (some ⟨g4, 0, none⟩) qs.length c)), (1, (.func (.func g) #[] #[cv]))]) (EnvLe.cons rfl (EnvLe.cons rfl (EnvLe.cons rfl (EnvLe.cons rfl (EnvLe.cons rfl (EnvLe.nil _)))))) (fun _ h => h) ?_
    refine cj_block ?_
    refine cj_loop (fun x : Nat × Nat × (List Wt) => [(0, (.slice (some ⟨g4, 0, none⟩) qs.length c)), (1, (.func (.func g) #[] #[cv])), (5, (.int .i64 (x.1 : Int))), (6, (.int .i64 (x.2.1 : Int)))]) (fun x : Nat × Nat × (List Wt) => [(fact (DelInv p qs x.1 x.2.1 x.2.2)), (sl 197 3 (some ⟨g4, 0, none⟩) qs.length c (x.2.2.flatMap encW)), R, F]) (fun x : Nat × Nat × (List Wt) => qs.length - x.2.1) ⟨i0, (i0 + 1), qs⟩ (EnvLe.cons rfl (EnvLe.cons rfl (EnvLe.cons rfl (EnvLe.cons rfl (EnvLe.nil _))))) (fun h hs => Sat.fact_in (del_start hx0 hp0 hn0) (sat_sub [0, 1, 2] [] (by decide +kernel) rfl rfl h hs)) ?_
    rintro ⟨i, j, cur⟩
    refine cj_eq (e' := [(0, (.slice (some ⟨g4, 0, none⟩) qs.length c)), (1, (.func (.func g) #[] #[cv])), (5, (.int .i64 (i : Int))), (6, (.int .i64 (j : Int)))]) (l' := [(fact (DelInv p qs i j cur)), (sl 197 3 (some ⟨g4, 0, none⟩) qs.length c (cur.flatMap encW)), R, F]) rfl rfl ?_
    refine cj_fact (sat_fact 0 rfl) (fun hinv => ?_)
    refine cj_sat (l' := [(sl 197 3 (some ⟨g4, 0, none⟩) qs.length c (cur.flatMap encW)), R, F]) (sat_sub [1, 2, 3] [0] (by decide +kernel) rfl rfl) ?_
    have hij : i < j := hinv.2.1
    have hjn : j ≤ qs.length := hinv.2.2.1
    have hcl : cur.length = qs.length := hinv.1
    refine cj_seq ?_
    refine cj_seq ?_
    refine cj_region ?_
    refine oj_v (ov_move rfl rfl) rfl rfl rfl ?_
    refine oj_v (ov_move rfl rfl) rfl rfl rfl ?_
    refine oj_v (ov_lenL rfl rfl rfl Try.underlying200) rfl rfl rfl ?_
    refine oj_v (ov_lss rfl rfl rfl) rfl rfl rfl ?_
    refine oj_nil ?_
    refine xj_then ?_
    refine cj_weak (e' := [(19, (.bool (decide ((j : Int) < (qs.length : Int))))), (0, (.slice (some ⟨g4, 0, none⟩) qs.length c)), (1, (.func (.func g) #[] #[cv])), (5, (.int .i64 (i : Int))), (6, (.int .i64 (j : Int)))]) (EnvLe.cons rfl (EnvLe.cons rfl (EnvLe.cons rfl (EnvLe.cons rfl (EnvLe.cons rfl (EnvLe.nil _)))))) (fun _ h => h) ?_
    refine cj_cond (b := decide ((j : Int) < (qs.length : Int))) rfl (fun h5 => ?_) (fun h5 => ?_)
    · have c6 : (j : Int) < (qs.length : Int) := of_decide_eq_true h5
      refine cj_skip ?_
      refine xj_then ?_
      refine cj_seq ?_
      refine cj_block ?_
      refine cj_seq ?_
      obtain ⟨x, hx, hxq⟩ := del_at hinv (by omega)
      refine cj_region ?_
      refine oj_v (ov_move rfl rfl) rfl rfl rfl ?_
      refine oj_v (ov_move rfl rfl) rfl rfl rfl ?_
      refine oj_v (ov_indexAddr0 (j := j) rfl rfl rfl Try.underlying200 T_s197 (by omega) (by omega)) rfl rfl rfl ?_
      refine oj_v (ov_loadn (cs := [(.int .i64 x.session), (.int .i64 x.seq), (.bool x.reader)]) rfl rfl T_a197 (rds_el (i := 0) (j := j) 0 encW_len rfl hx rfl)) rfl rfl rfl ?_
      refine oj_e (oe_alloc rfl T_z197) rfl rfl rfl (fun b7 => ?_)
      refine oj_eq (e' := [(7, (.pointer (some ⟨b7, 0, none⟩))), (25, (.agg #[(.int .i64 x.session), (.int .i64 x.seq), (.bool x.reader)])), (24, (.pointer (some ⟨g4, (j * 3), none⟩))), (23, (.int .i64 (j : Int))), (22, (.slice (some ⟨g4, 0, none⟩) qs.length c)), (19, (.bool (decide ((j : Int) < (qs.length : Int))))), (0, (.slice (some ⟨g4, 0, none⟩) qs.length c)), (1, (.func (.func g) #[] #[cv])), (5, (.int .i64 (i : Int))), (6, (.int .i64 (j : Int)))]) (l' := [(pts b7 (.cells #[(.int .i64 0), (.int .i64 0), (.bool false)] 197 (0, 0))), (sl 197 3 (some ⟨g4, 0, none⟩) qs.length c (cur.flatMap encW)), R, F]) rfl rfl ?_
      refine oj_e0 (oe_storen (i := 0) rfl rfl rfl T_a197 rfl rfl (by simp [Value.oneCell'])) rfl rfl (fun _ => ?_)
      refine oj_eq (e' := [(7, (.pointer (some ⟨b7, 0, none⟩))), (25, (.agg #[(.int .i64 x.session), (.int .i64 x.seq), (.bool x.reader)])), (24, (.pointer (some ⟨g4, (j * 3), none⟩))), (23, (.int .i64 (j : Int))), (22, (.slice (some ⟨g4, 0, none⟩) qs.length c)), (19, (.bool (decide ((j : Int) < (qs.length : Int))))), (0, (.slice (some ⟨g4, 0, none⟩) qs.length c)), (1, (.func (.func g) #[] #[cv])), (5, (.int .i64 (i : Int))), (6, (.int .i64 (j : Int)))]) (l' := [(pts b7 (.cells #[(.int .i64 x.session), (.int .i64 x.seq), (.bool x.reader)] 197 (0, 0))), (sl 197 3 (some ⟨g4, 0, none⟩) qs.length c (cur.flatMap encW)), R, F]) rfl rfl ?_
      refine oj_nil ?_
      refine xj_then ?_
      refine cj_weak (e' := [(7, (.pointer (some ⟨b7, 0, none⟩))), (0, (.slice (some ⟨g4, 0, none⟩) qs.length c)), (1, (.func (.func g) #[] #[cv])), (5, (.int .i64 (i : Int))), (6, (.int .i64 (j : Int)))]) (EnvLe.cons rfl (EnvLe.cons rfl (EnvLe.cons rfl (EnvLe.cons rfl (EnvLe.cons rfl (EnvLe.nil _)))))) (fun _ h => h) ?_
      refine cj_seq ?_
      refine cj_region ?_
      refine oj_v (ov_move rfl rfl) rfl rfl rfl ?_
      refine oj_v (ov_loadn (cs := [(.int .i64 x.session), (.int .i64 x.seq), (.bool x.reader)]) rfl rfl T_a197 (rds_pts (i := 0) rfl rfl)) rfl rfl rfl ?_
      refine oj_e (oe_callv rfl rfl rfl rfl rfl hf hn hb (rest := [(pts b7 (.cells #[(.int .i64 x.session), (.int .i64 x.seq), (.bool x.reader)] 197 (0, 0))), (sl 197 3 (some ⟨g4, 0, none⟩) qs.length c (cur.flatMap encW)), F]) (hp x) (js := [2, 0, 1, 3]) ⟨by decide +kernel, rfl, rfl⟩) rfl rfl rfl (fun _ => ?_)
      refine oj_eq (e' := [(28, (.bool (p x))), (27, (.agg #[(.int .i64 x.session), (.int .i64 x.seq), (.bool x.reader)])), (26, (.func (.func g) #[] #[cv])), (7, (.pointer (some ⟨b7, 0, none⟩))), (0, (.slice (some ⟨g4, 0, none⟩) qs.length c)), (1, (.func (.func g) #[] #[cv])), (5, (.int .i64 (i : Int))), (6, (.int .i64 (j : Int)))]) (l' := [R, (pts b7 (.cells #[(.int .i64 x.session), (.int .i64 x.seq), (.bool x.reader)] 197 (0, 0))), (sl 197 3 (some ⟨g4, 0, none⟩) qs.length c (cur.flatMap encW)), F]) rfl rfl ?_
      refine oj_v (ov_not rfl rfl) rfl rfl rfl ?_
      refine oj_nil ?_
      refine xj_then ?_
      refine cj_weak (e' := [(29, (.bool (!(p x)))), (7, (.pointer (some ⟨b7, 0, none⟩))), (0, (.slice (some ⟨g4, 0, none⟩) qs.length c)), (1, (.func (.func g) #[] #[cv])), (5, (.int .i64 (i : Int))), (6, (.int .i64 (j : Int)))]) (EnvLe.cons rfl (EnvLe.cons rfl (EnvLe.cons rfl (EnvLe.cons rfl (EnvLe.cons rfl (EnvLe.cons rfl (EnvLe.nil _))))))) (fun _ h => h) ?_
      refine cj_cond (b := !(p x)) rfl (fun h8 => ?_) (fun h8 => ?_)
      · have h9 : (p x) = false := by simpa using h8
        have c10 := h9
        refine cj_seq ?_
        refine cj_region ?_
        refine oj_v (ov_move rfl rfl) rfl rfl rfl ?_
        refine oj_v (ov_move rfl rfl) rfl rfl rfl ?_
        refine oj_v (ov_loadn (cs := [(.int .i64 x.session), (.int .i64 x.seq), (.bool x.reader)]) rfl rfl T_a197 (rds_pts (i := 1) rfl rfl)) rfl rfl rfl ?_
        refine oj_v (ov_indexAddr0 (j := i) rfl rfl rfl Try.underlying200 T_s197 (by omega) (by omega)) rfl rfl rfl ?_
        refine oj_e0 (oe_storen_sl (i := 2) (vs := [(.int .i64 x.session), (.int .i64 x.seq), (.bool x.reader)]) rfl rfl rfl T_a197 rfl (by simp [Value.oneCell']) (by simp only [List.length_cons, List.length_nil]; omega) (by omega)) rfl rfl (fun _ => ?_)
        refine oj_eq (e' := [(33, (.pointer (some ⟨g4, (i * 3), none⟩))), (32, (.agg #[(.int .i64 x.session), (.int .i64 x.seq), (.bool x.reader)])), (31, (.int .i64 (i : Int))), (30, (.slice (some ⟨g4, 0, none⟩) qs.length c)), (29, (.bool (!(p x)))), (7, (.pointer (some ⟨b7, 0, none⟩))), (0, (.slice (some ⟨g4, 0, none⟩) qs.length c)), (1, (.func (.func g) #[] #[cv])), (5, (.int .i64 (i : Int))), (6, (.int .i64 (j : Int)))]) (l' := [R, (pts b7 (.cells #[(.int .i64 x.session), (.int .i64 x.seq), (.bool x.reader)] 197 (0, 0))), (sl 197 3 (some ⟨g4, 0, none⟩) qs.length c (splice (cur.flatMap encW) (i * 3) [(.int .i64 x.session), (.int .i64 x.seq), (.bool x.reader)])), F]) rfl rfl ?_
        refine oj_eq (l' := [R, (pts b7 (.cells #[(.int .i64 x.session), (.int .i64 x.seq), (.bool x.reader)] 197 (0, 0))), (sl 197 3 (some ⟨g4, 0, none⟩) qs.length c ((cur.set i x).flatMap encW)), F]) rfl (by rw [← splice_flat encW_len cur i x (by omega)]; rfl) ?_
        refine oj_nil ?_
        refine xj_then ?_
        refine cj_weak (e' := [(0, (.slice (some ⟨g4, 0, none⟩) qs.length c)), (1, (.func (.func g) #[] #[cv])), (5, (.int .i64 (i : Int))), (6, (.int .i64 (j : Int)))]) (EnvLe.cons rfl (EnvLe.cons rfl (EnvLe.cons rfl (EnvLe.cons rfl (EnvLe.nil _))))) (fun _ h => h) ?_
        refine cj_region ?_
        refine oj_v (ov_move rfl rfl) rfl rfl rfl ?_
        refine oj_v (ov_add rfl rfl rfl (by omega)) rfl rfl rfl ?_
        refine oj_v (ov_assign rfl rfl) rfl rfl rfl ?_
        refine oj_nil ?_
        refine xj_block_normal ?_
        refine xj_then ?_
        refine cj_weak (e' := [(5, (.int .i64 ((i : Int) + 1))), (0, (.slice (some ⟨g4, 0, none⟩) qs.length c)), (1, (.func (.func g) #[] #[cv])), (6, (.int .i64 (j : Int)))]) (EnvLe.cons rfl (EnvLe.cons rfl (EnvLe.cons rfl (EnvLe.cons rfl (EnvLe.nil _))))) (fun _ h => h) ?_
        refine cj_region ?_
        refine oj_v (ov_move rfl rfl) rfl rfl rfl ?_
        refine oj_v (ov_add rfl rfl rfl (by omega)) rfl rfl rfl ?_
        refine oj_v (ov_assign rfl rfl) rfl rfl rfl ?_
        refine oj_nil ?_
        exact xj_round ⟨(i + 1), (j + 1), (cur.set i x)⟩ (by dsimp only; omega) (EnvLe.cons rfl (EnvLe.cons rfl (EnvLe.cons rfl (EnvLe.cons rfl (EnvLe.nil _))))) (fun h hs => Sat.fact_in (del_keep hinv hxq (by simpa using h8)) (sat_sub [2, 0, 3] [1] (by decide +kernel) rfl rfl h hs))
      · have h11 : (p x) = true := by simpa using h8
        have c12 := h11
        refine cj_skip ?_
        refine xj_block_normal ?_
        refine xj_then ?_
        refine cj_region ?_
        refine oj_v (ov_move rfl rfl) rfl rfl rfl ?_
        refine oj_v (ov_add rfl rfl rfl (by omega)) rfl rfl rfl ?_
        refine oj_v (ov_assign rfl rfl) rfl rfl rfl ?_
        refine oj_nil ?_
        exact xj_round ⟨i, (j + 1), cur⟩ (by dsimp only; omega) (EnvLe.cons rfl (EnvLe.cons rfl (EnvLe.cons rfl (EnvLe.cons rfl (EnvLe.nil _))))) (fun h hs => Sat.fact_in (del_skip hinv hxq (by simpa using h8)) (sat_sub [2, 0, 3] [1] (by decide +kernel) rfl rfl h hs))
    · have c13 : ¬ ((j : Int) < (qs.length : Int)) := of_decide_eq_false h5
      refine cj_exit ?_
      refine xj_then_other (by simp) ?_
      refine xj_round_other (by simp) ?_
      refine xj_block_exit ?_
      refine xj_then ?_
      refine cj_weak (e' := [(0, (.slice (some ⟨g4, 0, none⟩) qs.length c)), (5, (.int .i64 (i : Int)))]) (EnvLe.cons rfl (EnvLe.cons rfl (EnvLe.nil _))) (fun _ h => h) ?_
      refine cj_seq ?_
      refine cj_region ?_
      refine oj_v (ov_move rfl rfl) rfl rfl rfl ?_
      refine oj_v (ov_move rfl rfl) rfl rfl rfl ?_
      refine oj_v (ov_cut (i := i) (j := qs.length) (vl := (some (.int .i64 (i : Int)))) (vh := none) rfl rfl Try.underlying200 T_s197 rfl rfl (by first | rfl | (unfold bnd; omega)) (by first | rfl | (unfold bnd; omega)) (by omega) (by omega)) rfl rfl rfl ?_
      refine oj_e0 (oe_clear (i := 0) (j := i) (a := (some ⟨g4, 0, none⟩)) (m := qs.length) (c := c) (k := 3) rfl rfl Try.underlying200 T_z197 rfl (by simp [Value.cells, Value.oneCell']) rfl (by omega) (by decide)) rfl rfl (fun _ => ?_)
      refine oj_eq (e' := [(38, (.slice (cutAt (some ⟨g4, 0, none⟩) c i 3) (qs.length - i) (c - i))), (37, (.int .i64 (i : Int))), (36, (.slice (some ⟨g4, 0, none⟩) qs.length c)), (0, (.slice (some ⟨g4, 0, none⟩) qs.length c)), (5, (.int .i64 (i : Int)))]) (l' := [(sl 197 3 (some ⟨g4, 0, none⟩) i c ((cur.flatMap encW).take (i * 3))), R, F]) rfl rfl ?_
      refine oj_nil ?_
      refine xj_then ?_
      refine cj_weak (e' := [(0, (.slice (some ⟨g4, 0, none⟩) qs.length c)), (5, (.int .i64 (i : Int)))]) (EnvLe.cons rfl (EnvLe.cons rfl (EnvLe.nil _))) (fun _ h => h) ?_
      refine cj_seq ?_
      refine cj_region ?_
      refine oj_v (ov_move rfl rfl) rfl rfl rfl ?_
      refine oj_v (ov_move rfl rfl) rfl rfl rfl ?_
      refine oj_v (ov_cut (i := 0) (j := i) (vl := none) (vh := (some (.int .i64 (i : Int)))) rfl rfl Try.underlying200 T_s197 rfl rfl (by first | rfl | (unfold bnd; omega)) (by first | rfl | (unfold bnd; omega)) (by omega) (by omega)) rfl rfl rfl ?_
      refine oj_head (v' := (.slice (some ⟨g4, 0, none⟩) i c)) (by rw [cutAt_some0]; simp only [Nat.sub_zero]) ?_
      refine oj_v (ov_assign rfl rfl) rfl rfl rfl ?_
      refine oj_nil ?_
      refine xj_then ?_
      refine cj_weak (e' := [(4, (.slice (some ⟨g4, 0, none⟩) i c))]) (EnvLe.cons rfl (EnvLe.nil _)) (fun _ h => h) ?_
      refine cj_ret ?_
      obtain ⟨he1, he2⟩ := del_end hinv (by omega)
      refine xj_ret (vs := [(.slice (some ⟨g4, 0, none⟩) i c)]) () rfl (by rw [← he1]; rfl) ?_
      rw [← he1, ← he2, ← take_flat encW_len]
      exact fun _ h => h


theorem ins_flat {a : Int} {l : List Int} : ((l.flatMap ei).take (l.countP fun y => decide (y < a)) ++ .int .i64 a :: (l.flatMap ei).drop (l.countP fun y => decide (y < a))) = (insI a l).flatMap ei := by
  have h1 := take_flat ei_len l (l.countP fun y => decide (y < a))
  have h2 := drop_flat ei_len l (l.countP fun y => decide (y < a))
  rw [Nat.mul_one] at h1 h2
  rw [h1, h2, insI]; simp [ei]
theorem insI_le (a : Int) (l : List Int) : l.countP (fun y => decide (y < a)) ≤ l.length := List.countP_le_length
theorem rs_nil {k n : Nat} {xs : List Value} {h : HL} (hs : rs k none n xs h) : n = 0 := by
  rcases hs.2 with h | ⟨g, off, cur, E, fz, h1, _⟩
  · exact h
  · cases h1
theorem sl_nil' {E k n c : Nat} {xs : List Value} {h : HL} (hs : sl E k none n c xs h) : n = 0 := by
  rcases hs.2 with h | ⟨g, cur, h1, _⟩
  · exact h.1
  · cases h1
theorem sat_sl0 {E k n c : Nat} {a : Option Addr} {xs : List Value} {l : List HP} (hn : n = 0) (hc : c = 0) (hx : xs = []) : ∀ h, Sat l h → Sat (sl E k a n c xs :: l) h := fun h hs => by
  subst hn; subst hc; subst hx
  exact ⟨fun _ => none, h, fun _ => .inl rfl, fun _ _ e => (by cases e), HL.le.refl _, ⟨by simp, .inl ⟨rfl, rfl⟩⟩, hs⟩


theorem sh_search (a : Option Addr) (c : Nat) (zs : List Int) (v : Int) (hz : zs.length ≤ 1099511627776) (hs : zs.Pairwise (· ≤ ·)) :
    Spec Try.prog 189 [.slice a zs.length c, .int .i64 v] [sl 3 1 a zs.length c (zs.flatMap ei)] (fun _ : Unit => .tuple #[.int .i64 ((zs.countP (fun y => decide (y < v)) : Nat) : Int), .bool (zs.contains v)]) (fun _ => [sl 3 1 a zs.length c (zs.flatMap ei)]) :=
  spec_search Try.laysNm225 ei (fun _ => rfl) 3 a c zs v hz hs
theorem sh_insert (a : Option Addr) (c i vb : Nat) (zs : List Int) (v : Int) (hi : i ≤ zs.length) (hz : zs.length ≤ 1099511627776) :
    Spec Try.prog 195 [.slice a zs.length c, .int .i64 (i : Int), .slice (some ⟨vb, 0, none⟩) 1 1] [sl 3 1 a zs.length c (zs.flatMap ei), pts vb (.cells #[.int .i64 v] 3 (0, 0))]
      (fun q : Option Addr × Nat => .slice q.1 (zs.length + 1) q.2) (fun q => [sl 3 1 q.1 (zs.length + 1) q.2 ((zs.flatMap ei).take i ++ .int .i64 v :: (zs.flatMap ei).drop i)]) :=
  spec_insert Try.laysNm221 a zs.length c i vb (zs.flatMap ei) (.int .i64 v) 3 hi hz (one_flat ei_one _) rfl
theorem sh_sort (a : Option Addr) (c : Nat) (ts : List Nm) (ht : ts.length ≤ 1099511627776) :
    Spec Try.prog 201 [.slice a ts.length c] [sl 9 1 a ts.length c (ts.flatMap es)] (fun _ : Unit => .tuple #[]) (fun _ => [sl 9 1 a (sortS ts).length c ((sortS ts).flatMap es)]) :=
  spec_sortStrings Try.lays192 9 a c ts ht

set_option maxRecDepth 100000 in
set_option maxHeartbeats 8000000 in
theorem lib_clone_wt (a : Option Addr) (n c : Nat) (qs : List Wt) (hq : qs.length = n) (hn : n ≤ 1099511627776) : Spec Try.prog 200 [(.slice a n c)] [(rs 3 a n (qs.flatMap encW))] (fun x : Option Addr × Nat => .slice x.1 n x.2) (fun x : Option Addr × Nat => [(sl 197 3 x.1 n x.2 (qs.flatMap encW)), (rs 3 a n (qs.flatMap encW))]) := by
  refine spec_of (fn := Try.f200) Try.func200 rfl rfl rfl fun F s => ?_
  show CJ _ _ _ _ _ [(0, (.slice a n c))] [(rs 3 a n (qs.flatMap encW)), F]
  refine cj_seq ?_
  refine cj_region ?_
  refine oj_v (ov_assign rfl rfl) rfl rfl rfl ?_
  refine oj_nil ?_
  refine xj_then ?_
  refine cj_seq ?_
  refine cj_seq ?_
  refine cj_fact (p := a = none → n = 0) (sat_know 0 rfl (fun h hs e => by subst e; exact rs_nil hs)) (fun hnil => ?_)
  refine cj_region ?_
  refine oj_v (ov_move rfl rfl) rfl rfl rfl ?_
  refine oj_v (ov_leql rfl rfl rfl Try.underlying200) rfl rfl rfl ?_
  refine oj_nil ?_
  refine xj_then ?_
  refine cj_cond (b := a.isNone) rfl (fun h1 => ?_) (fun h1 => ?_)
  · have c2 : a = none := by simpa using h1
    refine cj_seq ?_
    refine cj_region ?_
    refine oj_v (ov_assign rfl rfl) rfl rfl rfl ?_
    refine oj_nil ?_
    refine xj_then ?_
    refine cj_weak (e' := [(2, (.slice none 0 0)), (0, (.slice a n c))]) (EnvLe.cons rfl (EnvLe.cons rfl (EnvLe.nil _))) (fun _ h => h) ?_
    refine cj_ret ?_
    refine xj_then_other (by simp) ?_
    have hn0 := hnil c2
    subst hn0
    refine xj_ret (vs := [(.slice none 0 0)]) (none, 0) rfl rfl ?_
    exact fun h hs => sat_sl0 rfl rfl (by rw [List.length_eq_zero_iff.1 hq]; rfl) h (sat_sub (l' := [(rs 3 a 0 (qs.flatMap encW)), F]) [0, 1] [] (by decide +kernel) rfl rfl h hs)
  · have c3 : a ≠ none := by intro e; rw [e] at h1; cases h1
    refine cj_skip ?_
    refine xj_then ?_
    refine cj_seq ?_
    refine cj_region ?_
    refine oj_e (oe_buildSlice (cells := #[]) rfl T_e200 T_z197 rfl rfl rfl rfl) rfl rfl rfl (fun b4 => ?_)
    refine oj_eq (e' := [(5, (.slice (some ⟨b4, 0, none⟩) 0 0)), (4, (.bool a.isNone)), (3, (.slice a n c)), (2, (.slice none 0 0)), (0, (.slice a n c))]) (l' := [(pts b4 (.cells #[] 197 (0, 0))), (rs 3 a n (qs.flatMap encW)), F]) rfl rfl ?_
    refine oj_sat (l' := [(sl 197 3 (some ⟨b4, 0, none⟩) 0 0 []), (rs 3 a n (qs.flatMap encW)), F]) (sat_turn 0 rfl (sl_of_pts (m := 0) (k := 3) rfl (by decide))) ?_
    refine oj_v (ov_move rfl rfl) rfl rfl rfl ?_
    refine oj_e (oe_appendL (i := 0) (k := 3) rfl T_e200 rfl rfl rfl (shows_rs (i := 1) (by rw [flat_len encW_len] <;> first | rfl | omega) rfl) (one_flat encW_one _) (by unfold maxLen; omega) (by omega)) rfl rfl rfl (fun q5 => ?_)
    refine oj_eq (e' := [(7, (.slice q5.1 (0 + n) q5.2)), (6, (.slice a n c)), (5, (.slice (some ⟨b4, 0, none⟩) 0 0)), (4, (.bool a.isNone)), (3, (.slice a n c)), (2, (.slice none 0 0)), (0, (.slice a n c))]) (l' := [(sl 197 3 q5.1 (0 + n) q5.2 ([] ++ (qs.flatMap encW))), (rs 3 a n (qs.flatMap encW)), F]) rfl rfl ?_
    obtain ⟨qa, qc⟩ := q5
    refine oj_eq (e' := [(7, (.slice qa (0 + n) qc)), (6, (.slice a n c)), (5, (.slice (some ⟨b4, 0, none⟩) 0 0)), (4, (.bool a.isNone)), (3, (.slice a n c)), (2, (.slice none 0 0)), (0, (.slice a n c))]) (l' := [(sl 197 3 qa (0 + n) qc ([] ++ (qs.flatMap encW))), (rs 3 a n (qs.flatMap encW)), F]) rfl rfl ?_
    refine oj_eq (e' := [(7, (.slice qa n qc)), (6, (.slice a n c)), (5, (.slice (some ⟨b4, 0, none⟩) 0 0)), (4, (.bool a.isNone)), (3, (.slice a n c)), (2, (.slice none 0 0)), (0, (.slice a n c))]) (l' := [(sl 197 3 qa n qc (qs.flatMap encW)), (rs 3 a n (qs.flatMap encW)), F]) (by simp) (by simp) ?_
    refine oj_v (ov_assign rfl rfl) rfl rfl rfl ?_
    refine oj_nil ?_
    refine xj_then ?_
    refine cj_weak (e' := [(2, (.slice qa n qc))]) (EnvLe.cons rfl (EnvLe.nil _)) (fun _ h => h) ?_
    refine cj_ret ?_
    refine xj_ret (vs := [(.slice qa n qc)]) (qa, qc) rfl rfl ?_
    exact fun _ h => h

set_option maxRecDepth 100000 in
set_option maxHeartbeats 8000000 in
theorem lib_clone_int (a : Option Addr) (n c : Nat) (qs : List Int) (hq : qs.length = n) (hn : n ≤ 1099511627776) : Spec Try.prog 142 [(.slice a n c)] [(sl 3 1 a n c (qs.flatMap ei))] (fun x : Option Addr × Nat => .slice x.1 n x.2) (fun x : Option Addr × Nat => [(sl 3 1 x.1 n x.2 (qs.flatMap ei)), (sl 3 1 a n c (qs.flatMap ei))]) := by
  refine spec_of (fn := Try.f142) Try.func142 rfl rfl rfl fun F s => ?_
  show CJ _ _ _ _ _ [(0, (.slice a n c))] [(sl 3 1 a n c (qs.flatMap ei)), F]
  refine cj_seq ?_
  refine cj_region ?_
  refine oj_v (ov_assign rfl rfl) rfl rfl rfl ?_
  refine oj_nil ?_
  refine xj_then ?_
  refine cj_seq ?_
  refine cj_seq ?_
  refine cj_fact (p := a = none → n = 0) (sat_know 0 rfl (fun h hs e => by subst e; exact sl_nil' hs)) (fun hnil => ?_)
  refine cj_region ?_
  refine oj_v (ov_move rfl rfl) rfl rfl rfl ?_
  refine oj_v (ov_leql rfl rfl rfl Try.underlying72) rfl rfl rfl ?_
  refine oj_nil ?_
  refine xj_then ?_
  refine cj_cond (b := a.isNone) rfl (fun h1 => ?_) (fun h1 => ?_)
  · have c2 : a = none := by simpa using h1
    refine cj_seq ?_
    refine cj_region ?_
    refine oj_v (ov_assign rfl rfl) rfl rfl rfl ?_
    refine oj_nil ?_
    refine xj_then ?_
    refine cj_weak (e' := [(2, (.slice none 0 0)), (0, (.slice a n c))]) (EnvLe.cons rfl (EnvLe.cons rfl (EnvLe.nil _))) (fun _ h => h) ?_
    refine cj_ret ?_
    refine xj_then_other (by simp) ?_
    have hn0 := hnil c2
    subst hn0
    refine xj_ret (vs := [(.slice none 0 0)]) (none, 0) rfl rfl ?_
    exact fun h hs => sat_sl0 rfl rfl (by rw [List.length_eq_zero_iff.1 hq]; rfl) h (sat_sub (l' := [(sl 3 1 a 0 c (qs.flatMap ei)), F]) [0, 1] [] (by decide +kernel) rfl rfl h hs)
  · have c3 : a ≠ none := by intro e; rw [e] at h1; cases h1
    refine cj_skip ?_
    refine xj_then ?_
    refine cj_seq ?_
    refine cj_region ?_
    refine oj_e (oe_buildSlice (cells := #[]) rfl T_e72 T_z3 rfl rfl rfl rfl) rfl rfl rfl (fun b4 => ?_)
    refine oj_eq (e' := [(5, (.slice (some ⟨b4, 0, none⟩) 0 0)), (4, (.bool a.isNone)), (3, (.slice a n c)), (2, (.slice none 0 0)), (0, (.slice a n c))]) (l' := [(pts b4 (.cells #[] 3 (0, 0))), (sl 3 1 a n c (qs.flatMap ei)), F]) rfl rfl ?_
    refine oj_sat (l' := [(sl 3 1 (some ⟨b4, 0, none⟩) 0 0 []), (sl 3 1 a n c (qs.flatMap ei)), F]) (sat_turn 0 rfl (sl_of_pts (m := 0) (k := 1) rfl (by decide))) ?_
    refine oj_v (ov_move rfl rfl) rfl rfl rfl ?_
    refine oj_e (oe_appendL (i := 0) (k := 1) rfl T_e72 rfl rfl rfl (shows_sl (i := 1) (by rw [flat_len ei_len] <;> first | rfl | omega) rfl) (one_flat ei_one _) (by unfold maxLen; omega) (by omega)) rfl rfl rfl (fun q5 => ?_)
    refine oj_eq (e' := [(7, (.slice q5.1 (0 + n) q5.2)), (6, (.slice a n c)), (5, (.slice (some ⟨b4, 0, none⟩) 0 0)), (4, (.bool a.isNone)), (3, (.slice a n c)), (2, (.slice none 0 0)), (0, (.slice a n c))]) (l' := [(sl 3 1 q5.1 (0 + n) q5.2 ([] ++ (qs.flatMap ei))), (sl 3 1 a n c (qs.flatMap ei)), F]) rfl rfl ?_
    obtain ⟨qa, qc⟩ := q5
    refine oj_eq (e' := [(7, (.slice qa (0 + n) qc)), (6, (.slice a n c)), (5, (.slice (some ⟨b4, 0, none⟩) 0 0)), (4, (.bool a.isNone)), (3, (.slice a n c)), (2, (.slice none 0 0)), (0, (.slice a n c))]) (l' := [(sl 3 1 qa (0 + n) qc ([] ++ (qs.flatMap ei))), (sl 3 1 a n c (qs.flatMap ei)), F]) rfl rfl ?_
    refine oj_eq (e' := [(7, (.slice qa n qc)), (6, (.slice a n c)), (5, (.slice (some ⟨b4, 0, none⟩) 0 0)), (4, (.bool a.isNone)), (3, (.slice a n c)), (2, (.slice none 0 0)), (0, (.slice a n c))]) (l' := [(sl 3 1 qa n qc (qs.flatMap ei)), (sl 3 1 a n c (qs.flatMap ei)), F]) (by simp) (by simp) ?_
    refine oj_v (ov_assign rfl rfl) rfl rfl rfl ?_
    refine oj_nil ?_
    refine xj_then ?_
    refine cj_weak (e' := [(2, (.slice qa n qc))]) (EnvLe.cons rfl (EnvLe.nil _)) (fun _ h => h) ?_
    refine cj_ret ?_
    refine xj_ret (vs := [(.slice qa n qc)]) (qa, qc) rfl rfl ?_
    exact fun _ h => h

end Go.Proofs.Ytbjdadekheoebaa
