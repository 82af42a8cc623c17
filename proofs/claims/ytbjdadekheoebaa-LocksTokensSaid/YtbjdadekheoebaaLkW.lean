/- The examples of the law of locks, walked. -/
import Derived.Test.YtbjdadekheoebaaLkE
set_option linter.all false
set_option linter.unusedVariables false
set_option linter.unusedSimpArgs false
set_option linter.unusedSectionVars false
set_option linter.unnecessarySimpa false
namespace Go.Proofs.Ytbjdadekheoebaa
open Go.RowKit Go.Lib

def cA (k s : Int) : Cm := ⟨k, s, 1, [97], 0⟩
def mA1 : Lks := [([97], ⟨[1], true, []⟩)]
def mA2 : Lks := [([97], ⟨[1], true, [⟨2, 1, false⟩]⟩)]
def mA3 : Lks := [([97], ⟨[1], true, [⟨2, 1, false⟩, ⟨3, 1, true⟩]⟩)]
def mA4 : Lks := [([97], ⟨[2], true, [⟨3, 1, true⟩]⟩)]
def mA5 : Lks := [([97], ⟨[3], false, []⟩)]
theorem aw1 : askM 0 [] (cA 5 1) = ([⟨1, 1, 0, 1, 0⟩], false, 1, mA1) := by decide +kernel
theorem aw2 : askM 1 mA1 (cA 5 2) = ([], true, 1, mA2) := by decide +kernel
theorem aw3 : askM 1 mA2 (cA 7 3) = ([], true, 1, mA3) := by decide +kernel
theorem aw4 : releaseM 1 mA3 (cA 6 1) = ([⟨1, 1, 0, 0, 0⟩, ⟨2, 1, 0, 2, 0⟩], 2, mA4) := by decide +kernel
theorem aw5 : releaseM 2 mA4 (cA 6 2) = ([⟨2, 1, 0, 0, 0⟩, ⟨3, 1, 0, 2, 0⟩], 2, mA5) := by decide +kernel
theorem aw6 : releaseM 2 mA5 (cA 6 2) = ([⟨2, 1, 13, 0, 0⟩], 2, mA5) := by decide +kernel
theorem aw7 : holdM mA5 [97] = ([3], false) := by decide +kernel
theorem awok0 : okM 0 ([] : Lks) := ⟨by simp [Rising], by simp, by simp⟩
theorem awok1 : okM 1 mA1 := by have h := askM_ok (tok := 0) (c := cA 5 1) awok0; rw [aw1] at h; exact h
theorem awok2 : okM 2 mA2 := by have h := askM_ok (tok := 1) (c := cA 5 2) awok1; rw [aw2] at h; exact h
theorem awok3 : okM 3 mA3 := by have h := askM_ok (tok := 1) (c := cA 7 3) awok2; rw [aw3] at h; exact h
theorem awok4 : okM 3 mA4 := by have h := releaseM_ok (tok := 1) (c := cA 6 1) awok3; rw [aw4] at h; exact h
theorem awok5 : okM 3 mA5 := by have h := releaseM_ok (tok := 2) (c := cA 6 2) awok4; rw [aw5] at h; exact h

theorem awc1 (b : Nat) : Spec Try.prog 41 [.pointer (some ⟨b, 0, none⟩), (.agg #[(.int .i64 ((cA 5 1).kind)), (.int .i64 ((cA 5 1).session)), (.int .i64 ((cA 5 1).seq)), (.string (ba (cA 5 1).name)), (.int .i64 ((cA 5 1).n))])] [LocksR [] 0 b] (fun x : Option Addr × Nat => .tuple #[.slice x.1 1 x.2, .bool false]) (fun x => [sl 56 5 x.1 1 x.2 (([⟨1, 1, 0, 1, 0⟩] : List Rp).flatMap encR), LocksR mA1 1 b]) := by
  have h := lk_ask b 0 0 [] (cA 5 1) awok0 (by omega) (by unfold topTok; omega) (by decide)
  rw [aw1] at h
  exact h
theorem awc2 (b : Nat) : Spec Try.prog 41 [.pointer (some ⟨b, 0, none⟩), (.agg #[(.int .i64 ((cA 5 2).kind)), (.int .i64 ((cA 5 2).session)), (.int .i64 ((cA 5 2).seq)), (.string (ba (cA 5 2).name)), (.int .i64 ((cA 5 2).n))])] [LocksR mA1 1 b] (fun x : Option Addr × Nat => .tuple #[.slice x.1 0 x.2, .bool true]) (fun x => [sl 56 5 x.1 0 x.2 (([] : List Rp).flatMap encR), LocksR mA2 1 b]) := by
  have h := lk_ask b 1 1 mA1 (cA 5 2) awok1 (by omega) (by unfold topTok; omega) (by decide)
  rw [aw2] at h
  exact h
theorem awc3 (b : Nat) : Spec Try.prog 41 [.pointer (some ⟨b, 0, none⟩), (.agg #[(.int .i64 ((cA 7 3).kind)), (.int .i64 ((cA 7 3).session)), (.int .i64 ((cA 7 3).seq)), (.string (ba (cA 7 3).name)), (.int .i64 ((cA 7 3).n))])] [LocksR mA2 1 b] (fun x : Option Addr × Nat => .tuple #[.slice x.1 0 x.2, .bool true]) (fun x => [sl 56 5 x.1 0 x.2 (([] : List Rp).flatMap encR), LocksR mA3 1 b]) := by
  have h := lk_ask b 1 2 mA2 (cA 7 3) awok2 (by omega) (by unfold topTok; omega) (by decide)
  rw [aw3] at h
  exact h
theorem awc4 (b : Nat) : Spec Try.prog 42 [.pointer (some ⟨b, 0, none⟩), (.agg #[(.int .i64 ((cA 6 1).kind)), (.int .i64 ((cA 6 1).session)), (.int .i64 ((cA 6 1).seq)), (.string (ba (cA 6 1).name)), (.int .i64 ((cA 6 1).n))])] [LocksR mA3 1 b] (fun x : Option Addr × Nat => .slice x.1 2 x.2) (fun x => [sl 56 5 x.1 2 x.2 (([⟨1, 1, 0, 0, 0⟩, ⟨2, 1, 0, 2, 0⟩] : List Rp).flatMap encR), LocksR mA4 2 b]) := by
  have h := lk_release b 1 3 mA3 (cA 6 1) awok3 (by omega) (by unfold topTok; omega)
  rw [aw4] at h
  exact h
theorem awc5 (b : Nat) : Spec Try.prog 42 [.pointer (some ⟨b, 0, none⟩), (.agg #[(.int .i64 ((cA 6 2).kind)), (.int .i64 ((cA 6 2).session)), (.int .i64 ((cA 6 2).seq)), (.string (ba (cA 6 2).name)), (.int .i64 ((cA 6 2).n))])] [LocksR mA4 2 b] (fun x : Option Addr × Nat => .slice x.1 2 x.2) (fun x => [sl 56 5 x.1 2 x.2 (([⟨2, 1, 0, 0, 0⟩, ⟨3, 1, 0, 2, 0⟩] : List Rp).flatMap encR), LocksR mA5 2 b]) := by
  have h := lk_release b 2 3 mA4 (cA 6 2) awok4 (by omega) (by unfold topTok; omega)
  rw [aw5] at h
  exact h
theorem awc6 (b : Nat) : Spec Try.prog 42 [.pointer (some ⟨b, 0, none⟩), (.agg #[(.int .i64 ((cA 6 2).kind)), (.int .i64 ((cA 6 2).session)), (.int .i64 ((cA 6 2).seq)), (.string (ba (cA 6 2).name)), (.int .i64 ((cA 6 2).n))])] [LocksR mA5 2 b] (fun x : Option Addr × Nat => .slice x.1 1 x.2) (fun x => [sl 56 5 x.1 1 x.2 (([⟨2, 1, 13, 0, 0⟩] : List Rp).flatMap encR), LocksR mA5 2 b]) := by
  have h := lk_release b 2 3 mA5 (cA 6 2) awok5 (by omega) (by unfold topTok; omega)
  rw [aw6] at h
  exact h
theorem awc7 (b : Nat) : Spec Try.prog 49 [.pointer (some ⟨b, 0, none⟩), .string (ba [97])] [LocksR mA5 2 b] (fun x : Option Addr × Nat => .tuple #[.slice x.1 1 x.2, .bool false]) (fun x => [sl 3 1 x.1 1 x.2 (([3] : List Int).flatMap ei), LocksR mA5 2 b]) := by
  have h := lk_holders b 2 3 mA5 [97] awok5 (by omega)
  rw [aw7] at h
  exact h
set_option maxRecDepth 100000 in
set_option maxHeartbeats 8000000 in
theorem lk_awake  : Spec Try.prog 44 [] [] (fun x : Unit => .bool true) (fun x : Unit => []) := by
  refine spec_of (fn := Try.f44) Try.func44 rfl rfl rfl fun F s => ?_
  show CJ _ _ _ _ _ [] [F]
  refine cj_seq ?_
  refine cj_region ?_
  refine oj_v (ov_assign rfl rfl) rfl rfl rfl ?_
  refine oj_nil ?_
  refine xj_then ?_
  refine cj_seq ?_
  refine cj_region ?_
  refine oj_e (oe_call rfl rfl rfl Try.func37 rfl rfl (rest := [F]) lk_new (js := [0]) ⟨by decide +kernel, rfl, rfl⟩) rfl rfl rfl (fun b1 => ?_)
  refine oj_eq (e' := [(13, (.pointer (some ⟨b1, 0, none⟩))), (0, (.bool false))]) (l' := [(LocksR [] 0 b1), F]) rfl rfl ?_
  refine oj_v (ov_assign rfl rfl) rfl rfl rfl ?_
  refine oj_nil ?_
  refine xj_then ?_
  refine cj_seq ?_
  refine cj_seq ?_
  refine cj_region ?_
  refine oj_v (ov_move rfl rfl) rfl rfl rfl ?_
  refine oj_v (ov_peql rfl rfl rfl Try.underlying78) rfl rfl rfl ?_
  refine oj_nil ?_
  refine xj_then ?_
  refine cj_false rfl ?_
  refine cj_skip ?_
  refine xj_then ?_
  refine cj_weak (e' := [(1, (.pointer (some ⟨b1, 0, none⟩))), (0, (.bool false))]) (EnvLe.cons rfl (EnvLe.cons rfl (EnvLe.nil _))) (fun _ h => h) ?_
  refine cj_seq ?_
  refine cj_region ?_
  refine oj_v (ov_move rfl rfl) rfl rfl rfl ?_
  refine oj_e (oe_call rfl rfl rfl Try.func133 rfl rfl (rest := [(LocksR [] 0 b1), F]) (lk_cmd 5 1) (js := [0, 1]) ⟨by decide +kernel, rfl, rfl⟩) rfl rfl rfl (fun _ => ?_)
  refine oj_eq (e' := [(18, (.agg #[(.int .i64 ((cA 5 1).kind)), (.int .i64 ((cA 5 1).session)), (.int .i64 ((cA 5 1).seq)), (.string (ba (cA 5 1).name)), (.int .i64 ((cA 5 1).n))])), (17, (.pointer (some ⟨b1, 0, none⟩))), (1, (.pointer (some ⟨b1, 0, none⟩))), (0, (.bool false))]) (l' := [(LocksR [] 0 b1), F]) rfl rfl ?_
  refine oj_e (oe_call rfl rfl rfl Try.func41 rfl rfl (rest := [F]) (awc1 b1) (js := [0, 1]) ⟨by decide +kernel, rfl, rfl⟩) rfl rfl rfl (fun q2 => ?_)
  refine oj_eq (e' := [(19, (.tuple #[(.slice q2.1 1 q2.2), (.bool false)])), (18, (.agg #[(.int .i64 ((cA 5 1).kind)), (.int .i64 ((cA 5 1).session)), (.int .i64 ((cA 5 1).seq)), (.string (ba (cA 5 1).name)), (.int .i64 ((cA 5 1).n))])), (17, (.pointer (some ⟨b1, 0, none⟩))), (1, (.pointer (some ⟨b1, 0, none⟩))), (0, (.bool false))]) (l' := [(sl 56 5 q2.1 1 q2.2 (([⟨1, 1, 0, 1, 0⟩] : List Rp).flatMap encR)), (LocksR mA1 1 b1), F]) rfl rfl ?_
  obtain ⟨a1, c1⟩ := q2
  refine oj_eq (e' := [(19, (.tuple #[(.slice a1 1 c1), (.bool false)])), (18, (.agg #[(.int .i64 ((cA 5 1).kind)), (.int .i64 ((cA 5 1).session)), (.int .i64 ((cA 5 1).seq)), (.string (ba (cA 5 1).name)), (.int .i64 ((cA 5 1).n))])), (17, (.pointer (some ⟨b1, 0, none⟩))), (1, (.pointer (some ⟨b1, 0, none⟩))), (0, (.bool false))]) (l' := [(sl 56 5 a1 1 c1 (([⟨1, 1, 0, 1, 0⟩] : List Rp).flatMap encR)), (LocksR mA1 1 b1), F]) rfl rfl ?_
  refine oj_fact (sat_know 0 rfl (fun h hs => sl_some hs (by omega))) (fun ⟨g3, hg3⟩ => ?_)
  subst hg3
  refine oj_v (ov_move rfl rfl) rfl rfl rfl ?_
  refine oj_v (ov_extract rfl rfl rfl) rfl rfl rfl ?_
  refine oj_v (ov_extract rfl rfl rfl) rfl rfl rfl ?_
  refine oj_v (ov_assign rfl rfl) rfl rfl rfl ?_
  refine oj_v (ov_assign rfl rfl) rfl rfl rfl ?_
  refine oj_nil ?_
  refine xj_then ?_
  refine cj_weak (e' := [(2, (.slice (some ⟨g3, 0, none⟩) 1 c1)), (1, (.pointer (some ⟨b1, 0, none⟩))), (0, (.bool false))]) (EnvLe.cons rfl (EnvLe.cons rfl (EnvLe.cons rfl (EnvLe.nil _)))) (fun _ h => h) ?_
  refine cj_seq ?_
  refine cj_region ?_
  refine oj_v (ov_move rfl rfl) rfl rfl rfl ?_
  refine oj_e (oe_call rfl rfl rfl Try.func133 rfl rfl (rest := [(sl 56 5 (some ⟨g3, 0, none⟩) 1 c1 (([⟨1, 1, 0, 1, 0⟩] : List Rp).flatMap encR)), (LocksR mA1 1 b1), F]) (lk_cmd 5 2) (js := [0, 1, 2]) ⟨by decide +kernel, rfl, rfl⟩) rfl rfl rfl (fun _ => ?_)
  refine oj_eq (e' := [(24, (.agg #[(.int .i64 ((cA 5 2).kind)), (.int .i64 ((cA 5 2).session)), (.int .i64 ((cA 5 2).seq)), (.string (ba (cA 5 2).name)), (.int .i64 ((cA 5 2).n))])), (23, (.pointer (some ⟨b1, 0, none⟩))), (2, (.slice (some ⟨g3, 0, none⟩) 1 c1)), (1, (.pointer (some ⟨b1, 0, none⟩))), (0, (.bool false))]) (l' := [(sl 56 5 (some ⟨g3, 0, none⟩) 1 c1 (([⟨1, 1, 0, 1, 0⟩] : List Rp).flatMap encR)), (LocksR mA1 1 b1), F]) rfl rfl ?_
  refine oj_e (oe_call rfl rfl rfl Try.func41 rfl rfl (rest := [(sl 56 5 (some ⟨g3, 0, none⟩) 1 c1 (([⟨1, 1, 0, 1, 0⟩] : List Rp).flatMap encR)), F]) (awc2 b1) (js := [1, 0, 2]) ⟨by decide +kernel, rfl, rfl⟩) rfl rfl rfl (fun q4 => ?_)
  refine oj_eq (e' := [(25, (.tuple #[(.slice q4.1 0 q4.2), (.bool true)])), (24, (.agg #[(.int .i64 ((cA 5 2).kind)), (.int .i64 ((cA 5 2).session)), (.int .i64 ((cA 5 2).seq)), (.string (ba (cA 5 2).name)), (.int .i64 ((cA 5 2).n))])), (23, (.pointer (some ⟨b1, 0, none⟩))), (2, (.slice (some ⟨g3, 0, none⟩) 1 c1)), (1, (.pointer (some ⟨b1, 0, none⟩))), (0, (.bool false))]) (l' := [(sl 56 5 q4.1 0 q4.2 (([] : List Rp).flatMap encR)), (LocksR mA2 1 b1), (sl 56 5 (some ⟨g3, 0, none⟩) 1 c1 (([⟨1, 1, 0, 1, 0⟩] : List Rp).flatMap encR)), F]) rfl rfl ?_
  obtain ⟨a2, c2⟩ := q4
  refine oj_eq (e' := [(25, (.tuple #[(.slice a2 0 c2), (.bool true)])), (24, (.agg #[(.int .i64 ((cA 5 2).kind)), (.int .i64 ((cA 5 2).session)), (.int .i64 ((cA 5 2).seq)), (.string (ba (cA 5 2).name)), (.int .i64 ((cA 5 2).n))])), (23, (.pointer (some ⟨b1, 0, none⟩))), (2, (.slice (some ⟨g3, 0, none⟩) 1 c1)), (1, (.pointer (some ⟨b1, 0, none⟩))), (0, (.bool false))]) (l' := [(sl 56 5 a2 0 c2 (([] : List Rp).flatMap encR)), (LocksR mA2 1 b1), (sl 56 5 (some ⟨g3, 0, none⟩) 1 c1 (([⟨1, 1, 0, 1, 0⟩] : List Rp).flatMap encR)), F]) rfl rfl ?_
  refine oj_v (ov_move rfl rfl) rfl rfl rfl ?_
  refine oj_v (ov_extract rfl rfl rfl) rfl rfl rfl ?_
  refine oj_v (ov_extract rfl rfl rfl) rfl rfl rfl ?_
  refine oj_v (ov_assign rfl rfl) rfl rfl rfl ?_
  refine oj_v (ov_assign rfl rfl) rfl rfl rfl ?_
  refine oj_nil ?_
  refine xj_then ?_
  refine cj_weak (e' := [(5, (.bool true)), (2, (.slice (some ⟨g3, 0, none⟩) 1 c1)), (1, (.pointer (some ⟨b1, 0, none⟩))), (0, (.bool false))]) (EnvLe.cons rfl (EnvLe.cons rfl (EnvLe.cons rfl (EnvLe.cons rfl (EnvLe.nil _))))) (fun _ h => h) ?_
  refine cj_seq ?_
  refine cj_region ?_
  refine oj_v (ov_move rfl rfl) rfl rfl rfl ?_
  refine oj_e (oe_call rfl rfl rfl Try.func133 rfl rfl (rest := [(sl 56 5 a2 0 c2 (([] : List Rp).flatMap encR)), (LocksR mA2 1 b1), (sl 56 5 (some ⟨g3, 0, none⟩) 1 c1 (([⟨1, 1, 0, 1, 0⟩] : List Rp).flatMap encR)), F]) (lk_cmd 7 3) (js := [0, 1, 2, 3]) ⟨by decide +kernel, rfl, rfl⟩) rfl rfl rfl (fun _ => ?_)
  refine oj_eq (e' := [(30, (.agg #[(.int .i64 ((cA 7 3).kind)), (.int .i64 ((cA 7 3).session)), (.int .i64 ((cA 7 3).seq)), (.string (ba (cA 7 3).name)), (.int .i64 ((cA 7 3).n))])), (29, (.pointer (some ⟨b1, 0, none⟩))), (5, (.bool true)), (2, (.slice (some ⟨g3, 0, none⟩) 1 c1)), (1, (.pointer (some ⟨b1, 0, none⟩))), (0, (.bool false))]) (l' := [(sl 56 5 a2 0 c2 (([] : List Rp).flatMap encR)), (LocksR mA2 1 b1), (sl 56 5 (some ⟨g3, 0, none⟩) 1 c1 (([⟨1, 1, 0, 1, 0⟩] : List Rp).flatMap encR)), F]) rfl rfl ?_
  refine oj_e (oe_call rfl rfl rfl Try.func41 rfl rfl (rest := [(sl 56 5 a2 0 c2 (([] : List Rp).flatMap encR)), (sl 56 5 (some ⟨g3, 0, none⟩) 1 c1 (([⟨1, 1, 0, 1, 0⟩] : List Rp).flatMap encR)), F]) (awc3 b1) (js := [1, 0, 2, 3]) ⟨by decide +kernel, rfl, rfl⟩) rfl rfl rfl (fun q5 => ?_)
  refine oj_eq (e' := [(31, (.tuple #[(.slice q5.1 0 q5.2), (.bool true)])), (30, (.agg #[(.int .i64 ((cA 7 3).kind)), (.int .i64 ((cA 7 3).session)), (.int .i64 ((cA 7 3).seq)), (.string (ba (cA 7 3).name)), (.int .i64 ((cA 7 3).n))])), (29, (.pointer (some ⟨b1, 0, none⟩))), (5, (.bool true)), (2, (.slice (some ⟨g3, 0, none⟩) 1 c1)), (1, (.pointer (some ⟨b1, 0, none⟩))), (0, (.bool false))]) (l' := [(sl 56 5 q5.1 0 q5.2 (([] : List Rp).flatMap encR)), (LocksR mA3 1 b1), (sl 56 5 a2 0 c2 (([] : List Rp).flatMap encR)), (sl 56 5 (some ⟨g3, 0, none⟩) 1 c1 (([⟨1, 1, 0, 1, 0⟩] : List Rp).flatMap encR)), F]) rfl rfl ?_
  obtain ⟨a3, c3⟩ := q5
  refine oj_eq (e' := [(31, (.tuple #[(.slice a3 0 c3), (.bool true)])), (30, (.agg #[(.int .i64 ((cA 7 3).kind)), (.int .i64 ((cA 7 3).session)), (.int .i64 ((cA 7 3).seq)), (.string (ba (cA 7 3).name)), (.int .i64 ((cA 7 3).n))])), (29, (.pointer (some ⟨b1, 0, none⟩))), (5, (.bool true)), (2, (.slice (some ⟨g3, 0, none⟩) 1 c1)), (1, (.pointer (some ⟨b1, 0, none⟩))), (0, (.bool false))]) (l' := [(sl 56 5 a3 0 c3 (([] : List Rp).flatMap encR)), (LocksR mA3 1 b1), (sl 56 5 a2 0 c2 (([] : List Rp).flatMap encR)), (sl 56 5 (some ⟨g3, 0, none⟩) 1 c1 (([⟨1, 1, 0, 1, 0⟩] : List Rp).flatMap encR)), F]) rfl rfl ?_
  refine oj_v (ov_move rfl rfl) rfl rfl rfl ?_
  refine oj_v (ov_extract rfl rfl rfl) rfl rfl rfl ?_
  refine oj_v (ov_extract rfl rfl rfl) rfl rfl rfl ?_
  refine oj_v (ov_assign rfl rfl) rfl rfl rfl ?_
  refine oj_v (ov_assign rfl rfl) rfl rfl rfl ?_
  refine oj_nil ?_
  refine xj_then ?_
  refine cj_weak (e' := [(7, (.bool true)), (5, (.bool true)), (2, (.slice (some ⟨g3, 0, none⟩) 1 c1)), (1, (.pointer (some ⟨b1, 0, none⟩))), (0, (.bool false))]) (EnvLe.cons rfl (EnvLe.cons rfl (EnvLe.cons rfl (EnvLe.cons rfl (EnvLe.cons rfl (EnvLe.nil _)))))) (fun _ h => h) ?_
  refine cj_seq ?_
  refine cj_region ?_
  refine oj_v (ov_move rfl rfl) rfl rfl rfl ?_
  refine oj_e (oe_call rfl rfl rfl Try.func133 rfl rfl (rest := [(sl 56 5 a3 0 c3 (([] : List Rp).flatMap encR)), (LocksR mA3 1 b1), (sl 56 5 a2 0 c2 (([] : List Rp).flatMap encR)), (sl 56 5 (some ⟨g3, 0, none⟩) 1 c1 (([⟨1, 1, 0, 1, 0⟩] : List Rp).flatMap encR)), F]) (lk_cmd 6 1) (js := [0, 1, 2, 3, 4]) ⟨by decide +kernel, rfl, rfl⟩) rfl rfl rfl (fun _ => ?_)
  refine oj_eq (e' := [(35, (.agg #[(.int .i64 ((cA 6 1).kind)), (.int .i64 ((cA 6 1).session)), (.int .i64 ((cA 6 1).seq)), (.string (ba (cA 6 1).name)), (.int .i64 ((cA 6 1).n))])), (34, (.pointer (some ⟨b1, 0, none⟩))), (7, (.bool true)), (5, (.bool true)), (2, (.slice (some ⟨g3, 0, none⟩) 1 c1)), (1, (.pointer (some ⟨b1, 0, none⟩))), (0, (.bool false))]) (l' := [(sl 56 5 a3 0 c3 (([] : List Rp).flatMap encR)), (LocksR mA3 1 b1), (sl 56 5 a2 0 c2 (([] : List Rp).flatMap encR)), (sl 56 5 (some ⟨g3, 0, none⟩) 1 c1 (([⟨1, 1, 0, 1, 0⟩] : List Rp).flatMap encR)), F]) rfl rfl ?_
  refine oj_e (oe_call rfl rfl rfl Try.func42 rfl rfl (rest := [(sl 56 5 a3 0 c3 (([] : List Rp).flatMap encR)), (sl 56 5 a2 0 c2 (([] : List Rp).flatMap encR)), (sl 56 5 (some ⟨g3, 0, none⟩) 1 c1 (([⟨1, 1, 0, 1, 0⟩] : List Rp).flatMap encR)), F]) (awc4 b1) (js := [1, 0, 2, 3, 4]) ⟨by decide +kernel, rfl, rfl⟩) rfl rfl rfl (fun q6 => ?_)
  refine oj_eq (e' := [(36, (.slice q6.1 2 q6.2)), (35, (.agg #[(.int .i64 ((cA 6 1).kind)), (.int .i64 ((cA 6 1).session)), (.int .i64 ((cA 6 1).seq)), (.string (ba (cA 6 1).name)), (.int .i64 ((cA 6 1).n))])), (34, (.pointer (some ⟨b1, 0, none⟩))), (7, (.bool true)), (5, (.bool true)), (2, (.slice (some ⟨g3, 0, none⟩) 1 c1)), (1, (.pointer (some ⟨b1, 0, none⟩))), (0, (.bool false))]) (l' := [(sl 56 5 q6.1 2 q6.2 (([⟨1, 1, 0, 0, 0⟩, ⟨2, 1, 0, 2, 0⟩] : List Rp).flatMap encR)), (LocksR mA4 2 b1), (sl 56 5 a3 0 c3 (([] : List Rp).flatMap encR)), (sl 56 5 a2 0 c2 (([] : List Rp).flatMap encR)), (sl 56 5 (some ⟨g3, 0, none⟩) 1 c1 (([⟨1, 1, 0, 1, 0⟩] : List Rp).flatMap encR)), F]) rfl rfl ?_
  obtain ⟨a4, c4⟩ := q6
  refine oj_eq (e' := [(36, (.slice a4 2 c4)), (35, (.agg #[(.int .i64 ((cA 6 1).kind)), (.int .i64 ((cA 6 1).session)), (.int .i64 ((cA 6 1).seq)), (.string (ba (cA 6 1).name)), (.int .i64 ((cA 6 1).n))])), (34, (.pointer (some ⟨b1, 0, none⟩))), (7, (.bool true)), (5, (.bool true)), (2, (.slice (some ⟨g3, 0, none⟩) 1 c1)), (1, (.pointer (some ⟨b1, 0, none⟩))), (0, (.bool false))]) (l' := [(sl 56 5 a4 2 c4 (([⟨1, 1, 0, 0, 0⟩, ⟨2, 1, 0, 2, 0⟩] : List Rp).flatMap encR)), (LocksR mA4 2 b1), (sl 56 5 a3 0 c3 (([] : List Rp).flatMap encR)), (sl 56 5 a2 0 c2 (([] : List Rp).flatMap encR)), (sl 56 5 (some ⟨g3, 0, none⟩) 1 c1 (([⟨1, 1, 0, 1, 0⟩] : List Rp).flatMap encR)), F]) rfl rfl ?_
  refine oj_fact (sat_know 0 rfl (fun h hs => sl_some hs (by omega))) (fun ⟨g7, hg7⟩ => ?_)
  subst hg7
  refine oj_v (ov_assign rfl rfl) rfl rfl rfl ?_
  refine oj_nil ?_
  refine xj_then ?_
  refine cj_weak (e' := [(8, (.slice (some ⟨g7, 0, none⟩) 2 c4)), (7, (.bool true)), (5, (.bool true)), (2, (.slice (some ⟨g3, 0, none⟩) 1 c1)), (1, (.pointer (some ⟨b1, 0, none⟩))), (0, (.bool false))]) (EnvLe.cons rfl (EnvLe.cons rfl (EnvLe.cons rfl (EnvLe.cons rfl (EnvLe.cons rfl (EnvLe.cons rfl (EnvLe.nil _))))))) (fun _ h => h) ?_
  refine cj_seq ?_
  refine cj_region ?_
  refine oj_v (ov_move rfl rfl) rfl rfl rfl ?_
  refine oj_e (oe_call rfl rfl rfl Try.func133 rfl rfl (rest := [(sl 56 5 (some ⟨g7, 0, none⟩) 2 c4 (([⟨1, 1, 0, 0, 0⟩, ⟨2, 1, 0, 2, 0⟩] : List Rp).flatMap encR)), (LocksR mA4 2 b1), (sl 56 5 a3 0 c3 (([] : List Rp).flatMap encR)), (sl 56 5 a2 0 c2 (([] : List Rp).flatMap encR)), (sl 56 5 (some ⟨g3, 0, none⟩) 1 c1 (([⟨1, 1, 0, 1, 0⟩] : List Rp).flatMap encR)), F]) (lk_cmd 6 2) (js := [0, 1, 2, 3, 4, 5]) ⟨by decide +kernel, rfl, rfl⟩) rfl rfl rfl (fun _ => ?_)
  refine oj_eq (e' := [(38, (.agg #[(.int .i64 ((cA 6 2).kind)), (.int .i64 ((cA 6 2).session)), (.int .i64 ((cA 6 2).seq)), (.string (ba (cA 6 2).name)), (.int .i64 ((cA 6 2).n))])), (37, (.pointer (some ⟨b1, 0, none⟩))), (8, (.slice (some ⟨g7, 0, none⟩) 2 c4)), (7, (.bool true)), (5, (.bool true)), (2, (.slice (some ⟨g3, 0, none⟩) 1 c1)), (1, (.pointer (some ⟨b1, 0, none⟩))), (0, (.bool false))]) (l' := [(sl 56 5 (some ⟨g7, 0, none⟩) 2 c4 (([⟨1, 1, 0, 0, 0⟩, ⟨2, 1, 0, 2, 0⟩] : List Rp).flatMap encR)), (LocksR mA4 2 b1), (sl 56 5 a3 0 c3 (([] : List Rp).flatMap encR)), (sl 56 5 a2 0 c2 (([] : List Rp).flatMap encR)), (sl 56 5 (some ⟨g3, 0, none⟩) 1 c1 (([⟨1, 1, 0, 1, 0⟩] : List Rp).flatMap encR)), F]) rfl rfl ?_
  refine oj_e (oe_call rfl rfl rfl Try.func42 rfl rfl (rest := [(sl 56 5 (some ⟨g7, 0, none⟩) 2 c4 (([⟨1, 1, 0, 0, 0⟩, ⟨2, 1, 0, 2, 0⟩] : List Rp).flatMap encR)), (sl 56 5 a3 0 c3 (([] : List Rp).flatMap encR)), (sl 56 5 a2 0 c2 (([] : List Rp).flatMap encR)), (sl 56 5 (some ⟨g3, 0, none⟩) 1 c1 (([⟨1, 1, 0, 1, 0⟩] : List Rp).flatMap encR)), F]) (awc5 b1) (js := [1, 0, 2, 3, 4, 5]) ⟨by decide +kernel, rfl, rfl⟩) rfl rfl rfl (fun q8 => ?_)
  refine oj_eq (e' := [(39, (.slice q8.1 2 q8.2)), (38, (.agg #[(.int .i64 ((cA 6 2).kind)), (.int .i64 ((cA 6 2).session)), (.int .i64 ((cA 6 2).seq)), (.string (ba (cA 6 2).name)), (.int .i64 ((cA 6 2).n))])), (37, (.pointer (some ⟨b1, 0, none⟩))), (8, (.slice (some ⟨g7, 0, none⟩) 2 c4)), (7, (.bool true)), (5, (.bool true)), (2, (.slice (some ⟨g3, 0, none⟩) 1 c1)), (1, (.pointer (some ⟨b1, 0, none⟩))), (0, (.bool false))]) (l' := [(sl 56 5 q8.1 2 q8.2 (([⟨2, 1, 0, 0, 0⟩, ⟨3, 1, 0, 2, 0⟩] : List Rp).flatMap encR)), (LocksR mA5 2 b1), (sl 56 5 (some ⟨g7, 0, none⟩) 2 c4 (([⟨1, 1, 0, 0, 0⟩, ⟨2, 1, 0, 2, 0⟩] : List Rp).flatMap encR)), (sl 56 5 a3 0 c3 (([] : List Rp).flatMap encR)), (sl 56 5 a2 0 c2 (([] : List Rp).flatMap encR)), (sl 56 5 (some ⟨g3, 0, none⟩) 1 c1 (([⟨1, 1, 0, 1, 0⟩] : List Rp).flatMap encR)), F]) rfl rfl ?_
  obtain ⟨a5, c5⟩ := q8
  refine oj_eq (e' := [(39, (.slice a5 2 c5)), (38, (.agg #[(.int .i64 ((cA 6 2).kind)), (.int .i64 ((cA 6 2).session)), (.int .i64 ((cA 6 2).seq)), (.string (ba (cA 6 2).name)), (.int .i64 ((cA 6 2).n))])), (37, (.pointer (some ⟨b1, 0, none⟩))), (8, (.slice (some ⟨g7, 0, none⟩) 2 c4)), (7, (.bool true)), (5, (.bool true)), (2, (.slice (some ⟨g3, 0, none⟩) 1 c1)), (1, (.pointer (some ⟨b1, 0, none⟩))), (0, (.bool false))]) (l' := [(sl 56 5 a5 2 c5 (([⟨2, 1, 0, 0, 0⟩, ⟨3, 1, 0, 2, 0⟩] : List Rp).flatMap encR)), (LocksR mA5 2 b1), (sl 56 5 (some ⟨g7, 0, none⟩) 2 c4 (([⟨1, 1, 0, 0, 0⟩, ⟨2, 1, 0, 2, 0⟩] : List Rp).flatMap encR)), (sl 56 5 a3 0 c3 (([] : List Rp).flatMap encR)), (sl 56 5 a2 0 c2 (([] : List Rp).flatMap encR)), (sl 56 5 (some ⟨g3, 0, none⟩) 1 c1 (([⟨1, 1, 0, 1, 0⟩] : List Rp).flatMap encR)), F]) rfl rfl ?_
  refine oj_fact (sat_know 0 rfl (fun h hs => sl_some hs (by omega))) (fun ⟨g9, hg9⟩ => ?_)
  subst hg9
  refine oj_v (ov_assign rfl rfl) rfl rfl rfl ?_
  refine oj_nil ?_
  refine xj_then ?_
  refine cj_weak (e' := [(9, (.slice (some ⟨g9, 0, none⟩) 2 c5)), (8, (.slice (some ⟨g7, 0, none⟩) 2 c4)), (7, (.bool true)), (5, (.bool true)), (2, (.slice (some ⟨g3, 0, none⟩) 1 c1)), (1, (.pointer (some ⟨b1, 0, none⟩))), (0, (.bool false))]) (EnvLe.cons rfl (EnvLe.cons rfl (EnvLe.cons rfl (EnvLe.cons rfl (EnvLe.cons rfl (EnvLe.cons rfl (EnvLe.cons rfl (EnvLe.nil _)))))))) (fun _ h => h) ?_
  refine cj_seq ?_
  refine cj_region ?_
  refine oj_v (ov_move rfl rfl) rfl rfl rfl ?_
  refine oj_e (oe_call rfl rfl rfl Try.func133 rfl rfl (rest := [(sl 56 5 (some ⟨g9, 0, none⟩) 2 c5 (([⟨2, 1, 0, 0, 0⟩, ⟨3, 1, 0, 2, 0⟩] : List Rp).flatMap encR)), (LocksR mA5 2 b1), (sl 56 5 (some ⟨g7, 0, none⟩) 2 c4 (([⟨1, 1, 0, 0, 0⟩, ⟨2, 1, 0, 2, 0⟩] : List Rp).flatMap encR)), (sl 56 5 a3 0 c3 (([] : List Rp).flatMap encR)), (sl 56 5 a2 0 c2 (([] : List Rp).flatMap encR)), (sl 56 5 (some ⟨g3, 0, none⟩) 1 c1 (([⟨1, 1, 0, 1, 0⟩] : List Rp).flatMap encR)), F]) (lk_cmd 6 2) (js := [0, 1, 2, 3, 4, 5, 6]) ⟨by decide +kernel, rfl, rfl⟩) rfl rfl rfl (fun _ => ?_)
  refine oj_eq (e' := [(41, (.agg #[(.int .i64 ((cA 6 2).kind)), (.int .i64 ((cA 6 2).session)), (.int .i64 ((cA 6 2).seq)), (.string (ba (cA 6 2).name)), (.int .i64 ((cA 6 2).n))])), (40, (.pointer (some ⟨b1, 0, none⟩))), (9, (.slice (some ⟨g9, 0, none⟩) 2 c5)), (8, (.slice (some ⟨g7, 0, none⟩) 2 c4)), (7, (.bool true)), (5, (.bool true)), (2, (.slice (some ⟨g3, 0, none⟩) 1 c1)), (1, (.pointer (some ⟨b1, 0, none⟩))), (0, (.bool false))]) (l' := [(sl 56 5 (some ⟨g9, 0, none⟩) 2 c5 (([⟨2, 1, 0, 0, 0⟩, ⟨3, 1, 0, 2, 0⟩] : List Rp).flatMap encR)), (LocksR mA5 2 b1), (sl 56 5 (some ⟨g7, 0, none⟩) 2 c4 (([⟨1, 1, 0, 0, 0⟩, ⟨2, 1, 0, 2, 0⟩] : List Rp).flatMap encR)), (sl 56 5 a3 0 c3 (([] : List Rp).flatMap encR)), (sl 56 5 a2 0 c2 (([] : List Rp).flatMap encR)), (sl 56 5 (some ⟨g3, 0, none⟩) 1 c1 (([⟨1, 1, 0, 1, 0⟩] : List Rp).flatMap encR)), F]) rfl rfl ?_
  refine oj_e (oe_call rfl rfl rfl Try.func42 rfl rfl (rest := [(sl 56 5 (some ⟨g9, 0, none⟩) 2 c5 (([⟨2, 1, 0, 0, 0⟩, ⟨3, 1, 0, 2, 0⟩] : List Rp).flatMap encR)), (sl 56 5 (some ⟨g7, 0, none⟩) 2 c4 (([⟨1, 1, 0, 0, 0⟩, ⟨2, 1, 0, 2, 0⟩] : List Rp).flatMap encR)), (sl 56 5 a3 0 c3 (([] : List Rp).flatMap encR)), (sl 56 5 a2 0 c2 (([] : List Rp).flatMap encR)), (sl 56 5 (some ⟨g3, 0, none⟩) 1 c1 (([⟨1, 1, 0, 1, 0⟩] : List Rp).flatMap encR)), F]) (awc6 b1) (js := [1, 0, 2, 3, 4, 5, 6]) ⟨by decide +kernel, rfl, rfl⟩) rfl rfl rfl (fun q10 => ?_)
  refine oj_eq (e' := [(42, (.slice q10.1 1 q10.2)), (41, (.agg #[(.int .i64 ((cA 6 2).kind)), (.int .i64 ((cA 6 2).session)), (.int .i64 ((cA 6 2).seq)), (.string (ba (cA 6 2).name)), (.int .i64 ((cA 6 2).n))])), (40, (.pointer (some ⟨b1, 0, none⟩))), (9, (.slice (some ⟨g9, 0, none⟩) 2 c5)), (8, (.slice (some ⟨g7, 0, none⟩) 2 c4)), (7, (.bool true)), (5, (.bool true)), (2, (.slice (some ⟨g3, 0, none⟩) 1 c1)), (1, (.pointer (some ⟨b1, 0, none⟩))), (0, (.bool false))]) (l' := [(sl 56 5 q10.1 1 q10.2 (([⟨2, 1, 13, 0, 0⟩] : List Rp).flatMap encR)), (LocksR mA5 2 b1), (sl 56 5 (some ⟨g9, 0, none⟩) 2 c5 (([⟨2, 1, 0, 0, 0⟩, ⟨3, 1, 0, 2, 0⟩] : List Rp).flatMap encR)), (sl 56 5 (some ⟨g7, 0, none⟩) 2 c4 (([⟨1, 1, 0, 0, 0⟩, ⟨2, 1, 0, 2, 0⟩] : List Rp).flatMap encR)), (sl 56 5 a3 0 c3 (([] : List Rp).flatMap encR)), (sl 56 5 a2 0 c2 (([] : List Rp).flatMap encR)), (sl 56 5 (some ⟨g3, 0, none⟩) 1 c1 (([⟨1, 1, 0, 1, 0⟩] : List Rp).flatMap encR)), F]) rfl rfl ?_
  obtain ⟨a6, c6⟩ := q10
  refine oj_eq (e' := [(42, (.slice a6 1 c6)), (41, (.agg #[(.int .i64 ((cA 6 2).kind)), (.int .i64 ((cA 6 2).session)), (.int .i64 ((cA 6 2).seq)), (.string (ba (cA 6 2).name)), (.int .i64 ((cA 6 2).n))])), (40, (.pointer (some ⟨b1, 0, none⟩))), (9, (.slice (some ⟨g9, 0, none⟩) 2 c5)), (8, (.slice (some ⟨g7, 0, none⟩) 2 c4)), (7, (.bool true)), (5, (.bool true)), (2, (.slice (some ⟨g3, 0, none⟩) 1 c1)), (1, (.pointer (some ⟨b1, 0, none⟩))), (0, (.bool false))]) (l' := [(sl 56 5 a6 1 c6 (([⟨2, 1, 13, 0, 0⟩] : List Rp).flatMap encR)), (LocksR mA5 2 b1), (sl 56 5 (some ⟨g9, 0, none⟩) 2 c5 (([⟨2, 1, 0, 0, 0⟩, ⟨3, 1, 0, 2, 0⟩] : List Rp).flatMap encR)), (sl 56 5 (some ⟨g7, 0, none⟩) 2 c4 (([⟨1, 1, 0, 0, 0⟩, ⟨2, 1, 0, 2, 0⟩] : List Rp).flatMap encR)), (sl 56 5 a3 0 c3 (([] : List Rp).flatMap encR)), (sl 56 5 a2 0 c2 (([] : List Rp).flatMap encR)), (sl 56 5 (some ⟨g3, 0, none⟩) 1 c1 (([⟨1, 1, 0, 1, 0⟩] : List Rp).flatMap encR)), F]) rfl rfl ?_
  refine oj_fact (sat_know 0 rfl (fun h hs => sl_some hs (by omega))) (fun ⟨g11, hg11⟩ => ?_)
  subst hg11
  refine oj_v (ov_assign rfl rfl) rfl rfl rfl ?_
  refine oj_nil ?_
  refine xj_then ?_
  refine cj_weak (e' := [(10, (.slice (some ⟨g11, 0, none⟩) 1 c6)), (9, (.slice (some ⟨g9, 0, none⟩) 2 c5)), (8, (.slice (some ⟨g7, 0, none⟩) 2 c4)), (7, (.bool true)), (5, (.bool true)), (2, (.slice (some ⟨g3, 0, none⟩) 1 c1)), (1, (.pointer (some ⟨b1, 0, none⟩))), (0, (.bool false))]) (EnvLe.cons rfl (EnvLe.cons rfl (EnvLe.cons rfl (EnvLe.cons rfl (EnvLe.cons rfl (EnvLe.cons rfl (EnvLe.cons rfl (EnvLe.cons rfl (EnvLe.nil _))))))))) (fun _ h => h) ?_
  refine cj_seq ?_
  refine cj_region ?_
  refine oj_v (ov_move rfl rfl) rfl rfl rfl ?_
  refine oj_e (oe_call rfl rfl rfl Try.func49 rfl rfl (rest := [(sl 56 5 (some ⟨g11, 0, none⟩) 1 c6 (([⟨2, 1, 13, 0, 0⟩] : List Rp).flatMap encR)), (sl 56 5 (some ⟨g9, 0, none⟩) 2 c5 (([⟨2, 1, 0, 0, 0⟩, ⟨3, 1, 0, 2, 0⟩] : List Rp).flatMap encR)), (sl 56 5 (some ⟨g7, 0, none⟩) 2 c4 (([⟨1, 1, 0, 0, 0⟩, ⟨2, 1, 0, 2, 0⟩] : List Rp).flatMap encR)), (sl 56 5 a3 0 c3 (([] : List Rp).flatMap encR)), (sl 56 5 a2 0 c2 (([] : List Rp).flatMap encR)), (sl 56 5 (some ⟨g3, 0, none⟩) 1 c1 (([⟨1, 1, 0, 1, 0⟩] : List Rp).flatMap encR)), F]) (awc7 b1) (js := [1, 0, 2, 3, 4, 5, 6, 7]) ⟨by decide +kernel, rfl, rfl⟩) rfl rfl rfl (fun q12 => ?_)
  refine oj_eq (e' := [(45, (.tuple #[(.slice q12.1 1 q12.2), (.bool false)])), (44, (.pointer (some ⟨b1, 0, none⟩))), (10, (.slice (some ⟨g11, 0, none⟩) 1 c6)), (9, (.slice (some ⟨g9, 0, none⟩) 2 c5)), (8, (.slice (some ⟨g7, 0, none⟩) 2 c4)), (7, (.bool true)), (5, (.bool true)), (2, (.slice (some ⟨g3, 0, none⟩) 1 c1)), (1, (.pointer (some ⟨b1, 0, none⟩))), (0, (.bool false))]) (l' := [(sl 3 1 q12.1 1 q12.2 (([3] : List Int).flatMap ei)), (LocksR mA5 2 b1), (sl 56 5 (some ⟨g11, 0, none⟩) 1 c6 (([⟨2, 1, 13, 0, 0⟩] : List Rp).flatMap encR)), (sl 56 5 (some ⟨g9, 0, none⟩) 2 c5 (([⟨2, 1, 0, 0, 0⟩, ⟨3, 1, 0, 2, 0⟩] : List Rp).flatMap encR)), (sl 56 5 (some ⟨g7, 0, none⟩) 2 c4 (([⟨1, 1, 0, 0, 0⟩, ⟨2, 1, 0, 2, 0⟩] : List Rp).flatMap encR)), (sl 56 5 a3 0 c3 (([] : List Rp).flatMap encR)), (sl 56 5 a2 0 c2 (([] : List Rp).flatMap encR)), (sl 56 5 (some ⟨g3, 0, none⟩) 1 c1 (([⟨1, 1, 0, 1, 0⟩] : List Rp).flatMap encR)), F]) rfl rfl ?_
  obtain ⟨a9, c9⟩ := q12
  refine oj_eq (e' := [(45, (.tuple #[(.slice a9 1 c9), (.bool false)])), (44, (.pointer (some ⟨b1, 0, none⟩))), (10, (.slice (some ⟨g11, 0, none⟩) 1 c6)), (9, (.slice (some ⟨g9, 0, none⟩) 2 c5)), (8, (.slice (some ⟨g7, 0, none⟩) 2 c4)), (7, (.bool true)), (5, (.bool true)), (2, (.slice (some ⟨g3, 0, none⟩) 1 c1)), (1, (.pointer (some ⟨b1, 0, none⟩))), (0, (.bool false))]) (l' := [(sl 3 1 a9 1 c9 (([3] : List Int).flatMap ei)), (LocksR mA5 2 b1), (sl 56 5 (some ⟨g11, 0, none⟩) 1 c6 (([⟨2, 1, 13, 0, 0⟩] : List Rp).flatMap encR)), (sl 56 5 (some ⟨g9, 0, none⟩) 2 c5 (([⟨2, 1, 0, 0, 0⟩, ⟨3, 1, 0, 2, 0⟩] : List Rp).flatMap encR)), (sl 56 5 (some ⟨g7, 0, none⟩) 2 c4 (([⟨1, 1, 0, 0, 0⟩, ⟨2, 1, 0, 2, 0⟩] : List Rp).flatMap encR)), (sl 56 5 a3 0 c3 (([] : List Rp).flatMap encR)), (sl 56 5 a2 0 c2 (([] : List Rp).flatMap encR)), (sl 56 5 (some ⟨g3, 0, none⟩) 1 c1 (([⟨1, 1, 0, 1, 0⟩] : List Rp).flatMap encR)), F]) rfl rfl ?_
  refine oj_fact (sat_know 0 rfl (fun h hs => sl_some hs (by omega))) (fun ⟨g13, hg13⟩ => ?_)
  subst hg13
  refine oj_v (ov_move rfl rfl) rfl rfl rfl ?_
  refine oj_v (ov_extract rfl rfl rfl) rfl rfl rfl ?_
  refine oj_v (ov_extract rfl rfl rfl) rfl rfl rfl ?_
  refine oj_v (ov_assign rfl rfl) rfl rfl rfl ?_
  refine oj_v (ov_assign rfl rfl) rfl rfl rfl ?_
  refine oj_nil ?_
  refine xj_then ?_
  refine cj_weak (e' := [(12, (.bool false)), (11, (.slice (some ⟨g13, 0, none⟩) 1 c9)), (10, (.slice (some ⟨g11, 0, none⟩) 1 c6)), (9, (.slice (some ⟨g9, 0, none⟩) 2 c5)), (8, (.slice (some ⟨g7, 0, none⟩) 2 c4)), (7, (.bool true)), (5, (.bool true)), (2, (.slice (some ⟨g3, 0, none⟩) 1 c1)), (1, (.pointer (some ⟨b1, 0, none⟩))), (0, (.bool false))]) (EnvLe.cons rfl (EnvLe.cons rfl (EnvLe.cons rfl (EnvLe.cons rfl (EnvLe.cons rfl (EnvLe.cons rfl (EnvLe.cons rfl (EnvLe.cons rfl (EnvLe.cons rfl (EnvLe.cons rfl (EnvLe.nil _))))))))))) (fun _ h => h) ?_
  refine cj_seq ?_
  refine cj_pass (e' := [(0, (.bool true))]) (l' := [(sl 3 1 (some ⟨g13, 0, none⟩) 1 c9 (([3] : List Int).flatMap ei)), (LocksR mA5 2 b1), (sl 56 5 (some ⟨g11, 0, none⟩) 1 c6 (([⟨2, 1, 13, 0, 0⟩] : List Rp).flatMap encR)), (sl 56 5 (some ⟨g9, 0, none⟩) 2 c5 (([⟨2, 1, 0, 0, 0⟩, ⟨3, 1, 0, 2, 0⟩] : List Rp).flatMap encR)), (sl 56 5 (some ⟨g7, 0, none⟩) 2 c4 (([⟨1, 1, 0, 0, 0⟩, ⟨2, 1, 0, 2, 0⟩] : List Rp).flatMap encR)), (sl 56 5 a3 0 c3 (([] : List Rp).flatMap encR)), (sl 56 5 a2 0 c2 (([] : List Rp).flatMap encR)), (sl 56 5 (some ⟨g3, 0, none⟩) 1 c1 (([⟨1, 1, 0, 1, 0⟩] : List Rp).flatMap encR)), F]) ?_ ?_
  · refine cj_region ?_
    refine og_v (ov_move rfl rfl) rfl rfl rfl ?_
    refine og_v (ov_lenL rfl rfl rfl Try.underlying85) rfl rfl rfl ?_
    refine og_v (ov_eql rfl rfl rfl) rfl rfl rfl ?_
    refine oj_head (v' := (.bool true)) (rfl) ?_
    refine og_v (ov_move rfl rfl) rfl rfl rfl ?_
    refine og_v (ov_move rfl rfl) rfl rfl rfl ?_
    refine og_v (ov_indexAddr0 (j := 0) rfl rfl rfl Try.underlying85 T_s56 (by omega) (by omega)) rfl rfl rfl ?_
    refine og_v (ov_fieldAddr rfl rfl T_f56_3) rfl rfl rfl ?_
    refine og_v (ov_load1 (v := (.int .u64 1)) rfl rfl T_o54 (rd_el (i := 7) (j := 0) 3 encR_len rfl rfl rfl)) rfl rfl rfl ?_
    refine og_v (ov_eql rfl rfl rfl) rfl rfl rfl ?_
    refine oj_head (v' := (.bool true)) (rfl) ?_
    refine og_v (ov_pick rfl rfl rfl rfl) rfl rfl rfl ?_
    refine og_v (ov_move rfl rfl) rfl rfl rfl ?_
    refine og_v (ov_move rfl rfl) rfl rfl rfl ?_
    refine og_v (ov_pick rfl rfl rfl rfl) rfl rfl rfl ?_
    refine og_v (ov_move rfl rfl) rfl rfl rfl ?_
    refine og_v (ov_move rfl rfl) rfl rfl rfl ?_
    refine og_v (ov_pick rfl rfl rfl rfl) rfl rfl rfl ?_
    refine og_v (ov_move rfl rfl) rfl rfl rfl ?_
    refine og_v (ov_move rfl rfl) rfl rfl rfl ?_
    refine og_v (ov_lenL rfl rfl rfl Try.underlying85) rfl rfl rfl ?_
    refine og_v (ov_eql rfl rfl rfl) rfl rfl rfl ?_
    refine oj_head (v' := (.bool true)) (rfl) ?_
    refine og_v (ov_pick rfl rfl rfl rfl) rfl rfl rfl ?_
    refine og_v (ov_move rfl rfl) rfl rfl rfl ?_
    refine og_v (ov_move rfl rfl) rfl rfl rfl ?_
    refine og_v (ov_indexAddr0 (j := 1) rfl rfl rfl Try.underlying85 T_s56 (by omega) (by omega)) rfl rfl rfl ?_
    refine og_v (ov_loadn (cs := [(.int .i64 2), (.int .i64 1), (.int .i64 0), (.int .u64 2), (.int .i64 0)]) rfl rfl T_a56 (rds_el (i := 4) (j := 1) 0 encR_len rfl rfl rfl)) rfl rfl rfl ?_
    refine og_v (ov_build (cells := #[(.int .i64 2), (.int .i64 1), (.int .i64 0), (.int .u64 2), (.int .i64 0)]) rfl T_z56 T_p56 rfl rfl) rfl rfl rfl ?_
    refine og_v (ov_aggeql rfl rfl rfl (by kernel_rfl) (eq_struct Try.underlying56 (by kernel_rfl) (eqf_int rfl T_o3 Try.underlying3 rfl rfl (eqf_int rfl T_o3 Try.underlying3 rfl rfl (eqf_int rfl T_o53 Try.underlying53 rfl rfl (eqf_int rfl T_o54 Try.underlying54 rfl rfl (eqf_int rfl T_o3 Try.underlying3 rfl rfl eqf_nil))))))) rfl rfl rfl ?_
    refine oj_head (v' := (.bool true)) (rfl) ?_
    refine og_v (ov_pick rfl rfl rfl rfl) rfl rfl rfl ?_
    refine og_v (ov_move rfl rfl) rfl rfl rfl ?_
    refine og_v (ov_move rfl rfl) rfl rfl rfl ?_
    refine og_v (ov_lenL rfl rfl rfl Try.underlying85) rfl rfl rfl ?_
    refine og_v (ov_eql rfl rfl rfl) rfl rfl rfl ?_
    refine oj_head (v' := (.bool true)) (rfl) ?_
    refine og_v (ov_pick rfl rfl rfl rfl) rfl rfl rfl ?_
    refine og_v (ov_move rfl rfl) rfl rfl rfl ?_
    refine og_v (ov_move rfl rfl) rfl rfl rfl ?_
    refine og_v (ov_indexAddr0 (j := 1) rfl rfl rfl Try.underlying85 T_s56 (by omega) (by omega)) rfl rfl rfl ?_
    refine og_v (ov_loadn (cs := [(.int .i64 3), (.int .i64 1), (.int .i64 0), (.int .u64 2), (.int .i64 0)]) rfl rfl T_a56 (rds_el (i := 3) (j := 1) 0 encR_len rfl rfl rfl)) rfl rfl rfl ?_
    refine og_v (ov_build (cells := #[(.int .i64 3), (.int .i64 1), (.int .i64 0), (.int .u64 2), (.int .i64 0)]) rfl T_z56 T_p56 rfl rfl) rfl rfl rfl ?_
    refine og_v (ov_aggeql rfl rfl rfl (by kernel_rfl) (eq_struct Try.underlying56 (by kernel_rfl) (eqf_int rfl T_o3 Try.underlying3 rfl rfl (eqf_int rfl T_o3 Try.underlying3 rfl rfl (eqf_int rfl T_o53 Try.underlying53 rfl rfl (eqf_int rfl T_o54 Try.underlying54 rfl rfl (eqf_int rfl T_o3 Try.underlying3 rfl rfl eqf_nil))))))) rfl rfl rfl ?_
    refine oj_head (v' := (.bool true)) (rfl) ?_
    refine og_v (ov_pick rfl rfl rfl rfl) rfl rfl rfl ?_
    refine og_v (ov_move rfl rfl) rfl rfl rfl ?_
    refine og_v (ov_move rfl rfl) rfl rfl rfl ?_
    refine og_v (ov_lenL rfl rfl rfl Try.underlying85) rfl rfl rfl ?_
    refine og_v (ov_eql rfl rfl rfl) rfl rfl rfl ?_
    refine oj_head (v' := (.bool true)) (rfl) ?_
    refine og_v (ov_pick rfl rfl rfl rfl) rfl rfl rfl ?_
    refine og_v (ov_move rfl rfl) rfl rfl rfl ?_
    refine og_v (ov_move rfl rfl) rfl rfl rfl ?_
    refine og_v (ov_indexAddr0 (j := 0) rfl rfl rfl Try.underlying85 T_s56 (by omega) (by omega)) rfl rfl rfl ?_
    refine og_v (ov_fieldAddr rfl rfl T_f56_2) rfl rfl rfl ?_
    refine og_v (ov_load1 (v := (.int .i64 13)) rfl rfl T_o53 (rd_el (i := 2) (j := 0) 2 encR_len rfl rfl rfl)) rfl rfl rfl ?_
    refine og_v (ov_eql rfl rfl rfl) rfl rfl rfl ?_
    refine oj_head (v' := (.bool true)) (rfl) ?_
    refine og_v (ov_pick rfl rfl rfl rfl) rfl rfl rfl ?_
    refine og_v (ov_move rfl rfl) rfl rfl rfl ?_
    refine og_v (ov_move rfl rfl) rfl rfl rfl ?_
    refine og_v (ov_lenL rfl rfl rfl Try.underlying72) rfl rfl rfl ?_
    refine og_v (ov_eql rfl rfl rfl) rfl rfl rfl ?_
    refine oj_head (v' := (.bool true)) (rfl) ?_
    refine og_v (ov_pick rfl rfl rfl rfl) rfl rfl rfl ?_
    refine og_v (ov_move rfl rfl) rfl rfl rfl ?_
    refine og_v (ov_move rfl rfl) rfl rfl rfl ?_
    refine og_v (ov_indexAddr0 (j := 0) rfl rfl rfl Try.underlying72 T_s3 (by omega) (by omega)) rfl rfl rfl ?_
    refine og_v (ov_load1 (v := (.int .i64 3)) rfl rfl T_o3 (rd_el (i := 0) (j := 0) 0 ei_len rfl rfl rfl)) rfl rfl rfl ?_
    refine og_v (ov_eql rfl rfl rfl) rfl rfl rfl ?_
    refine oj_head (v' := (.bool true)) (rfl) ?_
    refine og_v (ov_pick rfl rfl rfl rfl) rfl rfl rfl ?_
    refine og_v (ov_move rfl rfl) rfl rfl rfl ?_
    refine og_v (ov_move rfl rfl) rfl rfl rfl ?_
    refine og_v (ov_not rfl rfl) rfl rfl rfl ?_
    refine og_v (ov_pick rfl rfl rfl rfl) rfl rfl rfl ?_
    refine og_v (ov_move rfl rfl) rfl rfl rfl ?_
    refine og_v (ov_move rfl rfl) rfl rfl rfl ?_
    refine og_e (oe_call rfl rfl rfl Try.func40 rfl rfl (rest := [(sl 3 1 (some ⟨g13, 0, none⟩) 1 c9 (([3] : List Int).flatMap ei)), (sl 56 5 (some ⟨g11, 0, none⟩) 1 c6 (([⟨2, 1, 13, 0, 0⟩] : List Rp).flatMap encR)), (sl 56 5 (some ⟨g9, 0, none⟩) 2 c5 (([⟨2, 1, 0, 0, 0⟩, ⟨3, 1, 0, 2, 0⟩] : List Rp).flatMap encR)), (sl 56 5 (some ⟨g7, 0, none⟩) 2 c4 (([⟨1, 1, 0, 0, 0⟩, ⟨2, 1, 0, 2, 0⟩] : List Rp).flatMap encR)), (sl 56 5 a3 0 c3 (([] : List Rp).flatMap encR)), (sl 56 5 a2 0 c2 (([] : List Rp).flatMap encR)), (sl 56 5 (some ⟨g3, 0, none⟩) 1 c1 (([⟨1, 1, 0, 1, 0⟩] : List Rp).flatMap encR)), F]) (lk_token b1 2 mA5) (js := [1, 0, 2, 3, 4, 5, 6, 7, 8]) ⟨by decide +kernel, rfl, rfl⟩) rfl rfl rfl (fun _ => ?_)
    refine oj_eq (e' := [(117, (.int .u64 2)), (116, (.pointer (some ⟨b1, 0, none⟩))), (115, (.bool true)), (114, (.bool true)), (113, (.bool true)), (112, (.bool false)), (111, (.bool true)), (110, (.bool true)), (109, (.bool true)), (108, (.int .i64 3)), (107, (.pointer (some ⟨g13, (0 * 1), none⟩))), (106, (.slice (some ⟨g13, 0, none⟩) 1 c9)), (105, (.bool true)), (104, (.bool true)), (103, (.bool true)), (102, (.int .i64 1)), (101, (.slice (some ⟨g13, 0, none⟩) 1 c9)), (100, (.bool true)), (99, (.bool true)), (98, (.bool true)), (97, (.int .i64 13)), (96, (.pointer (some ⟨g11, (0 * 5 + 2), none⟩))), (95, (.pointer (some ⟨g11, (0 * 5), none⟩))), (94, (.slice (some ⟨g11, 0, none⟩) 1 c6)), (93, (.bool true)), (92, (.bool true)), (91, (.bool true)), (90, (.int .i64 1)), (89, (.slice (some ⟨g11, 0, none⟩) 1 c6)), (88, (.bool true)), (87, (.bool true)), (86, (.bool true)), (85, (.agg #[(.int .i64 3), (.int .i64 1), (.int .i64 0), (.int .u64 2), (.int .i64 0)])), (84, (.agg #[(.int .i64 3), (.int .i64 1), (.int .i64 0), (.int .u64 2), (.int .i64 0)])), (83, (.pointer (some ⟨g9, (1 * 5), none⟩))), (82, (.slice (some ⟨g9, 0, none⟩) 2 c5)), (81, (.bool true)), (80, (.bool true)), (79, (.bool true)), (78, (.int .i64 2)), (77, (.slice (some ⟨g9, 0, none⟩) 2 c5)), (76, (.bool true)), (75, (.bool true)), (74, (.bool true)), (73, (.agg #[(.int .i64 2), (.int .i64 1), (.int .i64 0), (.int .u64 2), (.int .i64 0)])), (72, (.agg #[(.int .i64 2), (.int .i64 1), (.int .i64 0), (.int .u64 2), (.int .i64 0)])), (71, (.pointer (some ⟨g7, (1 * 5), none⟩))), (70, (.slice (some ⟨g7, 0, none⟩) 2 c4)), (69, (.bool true)), (68, (.bool true)), (67, (.bool true)), (66, (.int .i64 2)), (65, (.slice (some ⟨g7, 0, none⟩) 2 c4)), (64, (.bool true)), (63, (.bool true)), (62, (.bool true)), (61, (.bool true)), (60, (.bool true)), (59, (.bool true)), (58, (.bool true)), (57, (.bool true)), (56, (.bool true)), (55, (.int .u64 1)), (54, (.pointer (some ⟨g3, (0 * 5 + 3), none⟩))), (53, (.pointer (some ⟨g3, (0 * 5), none⟩))), (52, (.slice (some ⟨g3, 0, none⟩) 1 c1)), (51, (.bool true)), (50, (.bool true)), (49, (.int .i64 1)), (48, (.slice (some ⟨g3, 0, none⟩) 1 c1)), (12, (.bool false)), (11, (.slice (some ⟨g13, 0, none⟩) 1 c9)), (10, (.slice (some ⟨g11, 0, none⟩) 1 c6)), (9, (.slice (some ⟨g9, 0, none⟩) 2 c5)), (8, (.slice (some ⟨g7, 0, none⟩) 2 c4)), (7, (.bool true)), (5, (.bool true)), (2, (.slice (some ⟨g3, 0, none⟩) 1 c1)), (1, (.pointer (some ⟨b1, 0, none⟩))), (0, (.bool false))]) (l' := [(LocksR mA5 2 b1), (sl 3 1 (some ⟨g13, 0, none⟩) 1 c9 (([3] : List Int).flatMap ei)), (sl 56 5 (some ⟨g11, 0, none⟩) 1 c6 (([⟨2, 1, 13, 0, 0⟩] : List Rp).flatMap encR)), (sl 56 5 (some ⟨g9, 0, none⟩) 2 c5 (([⟨2, 1, 0, 0, 0⟩, ⟨3, 1, 0, 2, 0⟩] : List Rp).flatMap encR)), (sl 56 5 (some ⟨g7, 0, none⟩) 2 c4 (([⟨1, 1, 0, 0, 0⟩, ⟨2, 1, 0, 2, 0⟩] : List Rp).flatMap encR)), (sl 56 5 a3 0 c3 (([] : List Rp).flatMap encR)), (sl 56 5 a2 0 c2 (([] : List Rp).flatMap encR)), (sl 56 5 (some ⟨g3, 0, none⟩) 1 c1 (([⟨1, 1, 0, 1, 0⟩] : List Rp).flatMap encR)), F]) rfl rfl ?_
    refine og_v (ov_eql rfl rfl rfl) rfl rfl rfl ?_
    refine oj_head (v' := (.bool true)) (rfl) ?_
    refine og_v (ov_pick rfl rfl rfl rfl) rfl rfl rfl ?_
    refine og_v (ov_assign rfl rfl) rfl rfl rfl ?_
    refine oj_nil ?_
    exact xj_pass (EnvLe.cons rfl (EnvLe.nil _)) (sat_js [1, 0, 2, 3, 4, 5, 6, 7, 8] (by decide +kernel) rfl rfl)
  · refine xj_then ?_
    refine cj_ret ?_
    refine xj_ret (vs := [(.bool true)]) () rfl rfl ?_
    exact sat_sub [8] [0, 1, 2, 3, 4, 5, 6, 7] (by decide +kernel) rfl rfl

end Go.Proofs.Ytbjdadekheoebaa
