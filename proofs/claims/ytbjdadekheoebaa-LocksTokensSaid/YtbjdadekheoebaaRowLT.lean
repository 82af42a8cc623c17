/- The law of tokens of the package locks: for every list of deeds and every first token it returns true, and the input reads as it did. -/
import Derived.Test.YtbjdadekheoebaaLkF
import Derived.Test.YtbjdadekheoebaaRows
import Derived.ProofKit
import Derived.Deep.Slices
import Derived.Carry
set_option linter.all false
set_option linter.unusedVariables false
set_option linter.unusedSimpArgs false
set_option linter.unusedSectionVars false
set_option linter.unnecessarySimpa false
namespace Go.Proofs.Ytbjdadekheoebaa
open Go.ChangeShapes Go.WideShapes Go.ChangeAt Go.RowKit Go.Deep

theorem below_of {W W' : World} {l : List HP} {k n : Nat} {a : Option Addr} {xs : List Value} {i : Nat} (hi : l[i]? = some (arg (hl W) k a n xs)) (hs : St W l W') : Below W.heap.size W W' := by
  obtain ⟨h, hle, ha⟩ := Sat.pick hi hs.sat
  have hb : (hl W).le (hl W') := ha.1.trans hle
  refine ⟨hs.os, hs.tape, hs.output, ?_, fun k hk => ?_⟩
  · rcases Nat.eq_zero_or_pos W.heap.size with h0 | h0
    · omega
    · have h1 : W.heap[W.heap.size - 1]? = some W.heap[W.heap.size - 1] := Array.getElem?_eq_getElem (by omega)
      have h2 := hb _ _ h1
      have := (Array.getElem?_eq_some_iff.1 (show W'.heap[W.heap.size - 1]? = some _ from h2)).1
      omega
  · have h1 : W.heap[k]? = some W.heap[k] := Array.getElem?_eq_getElem hk
    rw [h1]; exact hb _ _ h1

theorem Try.own : ownKnob Try.prog.godebug = none := by kernel_rfl
theorem Try.laidOut : laidOutB Try.prog = true := by kernel_rfl

theorem u64_of_wf {b : Int} (h : (Lit.int .u64 b).wf = true) : 0 ≤ b ∧ b ≤ 18446744073709551615 := by
  simp [Lit.wf] at h
  have h1 : IntKind.u64.min = 0 := by decide
  have h2 : IntKind.u64.max = 18446744073709551615 := by decide
  omega
instance : Inhabited Dd := ⟨⟨0, ⟨0, 0, 0, [], 0⟩, 0⟩⟩
theorem some_at {α : Type} {l : List α} {i n : Nat} (h : l.length = n) (hi : i < n) : ∃ y, l[i]? = some y := ⟨l[i]'(by omega), List.getElem?_eq_getElem (by omega)⟩
theorem cells82 : Try.prog.cellsOf 82 = 7 := by kernel_rfl
theorem cells24 : Try.prog.cellsOf 24 = 5 := by kernel_rfl
theorem cells3 : Try.prog.cellsOf 3 = 1 := by kernel_rfl
theorem cells9 : Try.prog.cellsOf 9 = 1 := by kernel_rfl
theorem cells54 : Try.prog.cellsOf 54 = 1 := by kernel_rfl
set_option maxRecDepth 100000 in
/-- a deed's cells -/
theorem dd_cells {W : World} {H : Type} {enc : TypeId × Value → H} {n : Nat} {cs : List Value} {y : DataW H × List MemPlace} (h : DataW.trod enc Try.prog W 0 (fun _ => true) true n 82 cs = some y) : ∃ d : Dd, cs = encD d := by
  obtain ⟨xs, n1, _, _, hl, hlen, hf⟩ := DataW.trod_struct Try.underlying82 h
  rw [cells82] at hl
  match cs, hl with
  | [c0, c1, c2, c3, c4, c5, c6], _ =>
    obtain ⟨y0, e0⟩ := some_at hlen (i := 0) (by decide)
    obtain ⟨y1, e1⟩ := some_at hlen (i := 1) (by decide)
    obtain ⟨y2, e2⟩ := some_at hlen (i := 2) (by decide)
    have f0 := hf 0 _ rfl
    have f1 := hf 1 _ rfl
    have f2 := hf 2 _ rfl
    rw [e0] at f0; rw [e1] at f1; rw [e2] at f2
    obtain ⟨a0, g0, _, w0⟩ := DataW.trod_int Try.underlying3 f0
    obtain ⟨a6, g6, _, w6⟩ := DataW.trod_int Try.underlying54 f2
    obtain ⟨zs, n2, _, _, hl2, hlen2, hf2⟩ := DataW.trod_struct Try.underlying24 f1
    obtain ⟨z0, k0⟩ := some_at hlen2 (i := 0) (by decide)
    obtain ⟨z1, k1⟩ := some_at hlen2 (i := 1) (by decide)
    obtain ⟨z2, k2⟩ := some_at hlen2 (i := 2) (by decide)
    obtain ⟨z3, k3⟩ := some_at hlen2 (i := 3) (by decide)
    obtain ⟨z4, k4⟩ := some_at hlen2 (i := 4) (by decide)
    have m0 := hf2 0 _ rfl
    have m1 := hf2 1 _ rfl
    have m2 := hf2 2 _ rfl
    have m3 := hf2 3 _ rfl
    have m4 := hf2 4 _ rfl
    rw [k0] at m0; rw [k1] at m1; rw [k2] at m2; rw [k3] at m3; rw [k4] at m4
    obtain ⟨b0, r0, _, _⟩ := DataW.trod_int Try.underlying3 m0
    obtain ⟨b1, r1, _, _⟩ := DataW.trod_int Try.underlying3 m1
    obtain ⟨b2, r2, _, _⟩ := DataW.trod_int Try.underlying3 m2
    obtain ⟨b3, r3, _, _⟩ := DataW.trod_string Try.underlying9 m3
    obtain ⟨b4, r4, _, _⟩ := DataW.trod_int Try.underlying3 m4
    simp [cells3] at g0
    simp [cells54] at g6
    simp [cells24, cells3] at r0 r1 r2 r4
    simp [cells24, cells9] at r3
    have hw : 0 ≤ a6 := (u64_of_wf w6).1
    refine ⟨⟨a0, ⟨b0, b1, b2, b3.data.toList, b4⟩, a6.toNat⟩, ?_⟩
    simp only [encD, ← ba_of, Int.toNat_of_nonneg hw]
    simp_all
/-- the deeds that came in -/
theorem dds_of {W : World} {H : Type} {enc : TypeId × Value → H} {a : Addr} {len n : Nat} {D : Nat → DataW H} {Pl : Nat → List MemPlace}
    (hel : ∀ i, i < len → ∃ cs', W.cells? 0 (a.add (i * Try.prog.cellsOf 82)) (Try.prog.cellsOf 82) = some cs' ∧ DataW.trod enc Try.prog W 0 (fun _ => true) true n 82 cs' = some (D i, Pl i)) :
    ∃ ds : List Dd, ds.length = len ∧ rs 7 (some a) len (ds.flatMap encD) (hl W) := by
  obtain ⟨V, hV⟩ := choose_lt (α := Dd) (n := len) (p := fun i d => ∀ j v, (encD d)[j]? = some v → W.cell? (a.add (i * 7 + j)) = some v) (fun i hi => by
    obtain ⟨cs', h1, h2⟩ := hel i hi
    obtain ⟨d, rfl⟩ := dd_cells h2
    rw [cells82] at h1
    obtain ⟨_, h3, h4⟩ := World.cells?_some h1
    refine ⟨d, fun j v hj => ?_⟩
    have hj7 : j < 7 := by rw [← h3]; exact (List.getElem?_eq_some_iff.1 hj).1
    have := h4 j hj7
    rw [Go.Deep.add_add] at this
    rw [this, hj])
  refine ⟨(List.range len).map V, by simp, by rw [flat_len encD_len]; simp, ?_⟩
  rcases Nat.eq_zero_or_pos len with h0 | h0
  · exact .inl h0
  · right
    obtain ⟨g, off, spot⟩ := a
    have hc0 := hV 0 h0 0 _ rfl
    have hspot : spot = none := by simpa [Addr.add] using World.cell?_spot hc0
    subst hspot
    rw [Addr.add_lit] at hc0
    obtain ⟨cur, E, fz, hb, _⟩ := Sort.cells_of_cell? hc0
    refine ⟨g, off, cur, E, fz, rfl, hb, ?_⟩
    apply List.ext_getElem?
    intro p
    rw [List.getElem?_take]
    by_cases hp : p < len * 7
    · rw [if_pos hp, List.getElem?_drop]
      have hi : p / 7 < len := Nat.div_lt_of_lt_mul (by omega)
      have hj : p % 7 < 7 := Nat.mod_lt _ (by decide)
      have he : ((List.range len).map V)[p / 7]? = some (V (p / 7)) := by simp [hi]
      obtain ⟨v, hv⟩ : ∃ v, (encD (V (p / 7)))[p % 7]? = some v := ⟨_, List.getElem?_eq_getElem (by rw [encD_len]; exact hj)⟩
      have h1 := hV (p / 7) hi (p % 7) v hv
      have e7 : p / 7 * 7 + p % 7 = p := by omega
      rw [e7, Addr.add_lit] at h1
      have h2 := flat_get encD_len he hv
      rw [e7] at h2
      rw [h2]
      obtain ⟨c', E', fz', hb', h3⟩ := Sort.cells_of_cell? h1
      rw [hb] at hb'
      cases hb'
      simpa using h3
    · rw [if_neg hp, List.getElem?_eq_none (by rw [flat_len encD_len]; simp; omega)]

set_option maxRecDepth 100000 in
theorem locksTokens_lifted (os : Os) (started : os.Started) (H : Type) (enc : TypeId × Value → H) :
    ReturnsInHanded {} Try.checked os 7 .any (Rows.locksTokensSpec.pre6 enc Try.prog Try.f7 Rows.locksTokensRow.domain false) (Rows.locksTokensSpec.post enc Try.prog Try.f7 false true false false) := by
  refine returnsInHanded_of_change (C := Try.checked) Try.own started (by kernel_rfl) Try.func7
    (ChangeSpec.witness6 (enc := enc) (C := Try.checked) false ⟨#[], #[.slice none 0 0, .int .u64 0], []⟩ 8 (by kernel_rfl) (by kernel_rfl) (by kernel_rfl) (by kernel_rfl)) ?_
  intro W base args ds gs before hval0 hW hcnd _
  have hval : ∀ (j : Nat) t v, Try.f7.params[j]? = some t → args[j]? = some v → Value.okWide Try.prog W .any base t v := hval0
  have hW' := hW
  obtain ⟨p, q, hA0, hV, rfl, hfz, hnd⟩ := hW
  have hA : DataW.TrodAll enc Try.prog W 0 (fun _ => true) true Try.f7.params.toList args.toList ds p := hA0
  rw [Try.params7] at hA hval
  obtain ⟨v0, v1, d0, d1, p0, p1, rfl, rfl, rfl, h0, h1⟩ := trodAll_two hA
  obtain ⟨rfl, rfl⟩ := trodVars_none hV
  obtain ⟨b, rfl, rfl, rfl, wb⟩ := open_int Try.underlying54 (hval 1 54 v1 rfl rfl) h1
  obtain ⟨a0, len, cap, rfl⟩ := okWide_slice Try.underlying77 (hval 0 77 v0 rfl rfl)
  have hw := u64_of_wf wb
  have hlt0 : ∀ x ∈ p0, x.block < W.heap.size := fun x hx => hW'.lt x (by simp [hx])
  have hds : ∃ ds : List Dd, ds.length = len ∧ rs 7 a0 len (ds.flatMap encD) (hl W) := by
    obtain ⟨fuel, hf⟩ := h0
    rcases open_slice Try.underlying77 hf with ⟨hcs, _⟩ | ⟨a, len', cap', m, n, D, Pl, hcs, hb, hl1, hm, hmm, _, hel⟩
    · simp [Value.cells] at hcs
      obtain ⟨rfl, rfl, rfl⟩ := hcs
      exact ⟨[], rfl, by simp, .inl rfl⟩
    · simp [Value.cells] at hcs
      obtain ⟨rfl, rfl, rfl⟩ := hcs
      exact dds_of (fun i hi => hel i (by rw [hmm]; simp; omega))
  obtain ⟨ds, rfl, hrs⟩ := hds
  have key := lk_tokens (hl W) a0 cap ds b.toNat (by unfold topTok; omega) (fun _ => True) W W ⟨⟨hl W, fun _ => none, fun _ => .inr rfl, HL.le.refl _, fun _ _ e => (by cases e), ⟨HL.le.refl _, hrs⟩, ⟨fun _ => none, fun _ => none, fun _ => .inl rfl, HL.le.refl _, HL.le.refl _, trivial, trivial⟩⟩, rfl, rfl, rfl⟩
  rw [Int.toNat_of_nonneg hw.1] at key
  refine key.mono fun e W' ⟨_, he, hst⟩ => ?_
  subst he
  have hB : Below W.heap.size W W' := below_of (i := 0) rfl hst
  obtain ⟨fuel', hd'⟩ := Below.trod Try.laidOut (by kernel_rfl) (of_decide_eq_true (by kernel_rfl)) h0 hB hlt0
  have e1 : Rows.locksTokensSpec.fn H ([d0, .lit (.int .u64 b)] ++ []) = { results := [.lit (.bool true)], args := [d0, .lit (.int .u64 b)] } := rfl
  refine ⟨_, rfl, _, _, _, [], (p0 ++ ([] ++ [])), [], hW', ?_, ?_, ?_, hB.frame _, fun h => by cases h⟩
  · rw [e1]; exact trodAll_mk1 (shut_bool Try.underlying4 _)
  · rw [e1]; exact ⟨p0, [] ++ [], ⟨fuel', hd'⟩, ⟨[], [], shut_int Try.underlying54 wb, rfl, rfl⟩, rfl⟩
  · rw [e1]; rfl

theorem locksTokens_holds : Rows.LocksTokensSaid :=
  OpenClaim.holds_of_wide 7 Try.f7 rfl rfl rfl rfl rfl rfl rfl ⟨rfl, rfl, rfl, rfl, rfl⟩ rfl rfl rfl rfl rfl (by kernel_rfl) Try.func7 (by kernel_rfl)
    (of_decide_eq_true (by kernel_rfl)) (by unfold Func.isWrapper; first | (rw [if_pos (by decide +kernel)]; kernel_rfl) | (rw [if_neg (by decide +kernel)]; exact ⟨rfl, rfl⟩))
    (fun os started H enc _ => locksTokens_lifted os started H enc)
#print axioms locksTokens_holds
end Go.Proofs.Ytbjdadekheoebaa
