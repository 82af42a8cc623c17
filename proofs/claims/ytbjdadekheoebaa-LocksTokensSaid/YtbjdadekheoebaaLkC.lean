/- The package locks: asking. -/
import Derived.Test.YtbjdadekheoebaaLkB
set_option linter.all false
set_option linter.unusedVariables false
set_option linter.unusedSimpArgs false
set_option linter.unusedSectionVars false
set_option linter.unnecessarySimpa false
namespace Go.Proofs.Ytbjdadekheoebaa
open Go.RowKit Go.Lib

abbrev wtC (c : Cm) : Wt := ⟨c.session, c.seq, c.kind == 7⟩
theorem lock_new {p : Nat} {rest : List HP} : ∀ h, Sat (pts p (.cells #[.slice none 0 0, .bool false, .slice none 0 0] 202 (0, 0)) :: rest) h → Sat (LockR ⟨[], false, []⟩ p :: rest) h := fun h hs => by
  refine ex_close (A := fun g : Option Addr × Nat × Option Addr × Nat => [pts p (.cells #[.slice g.1 ([] : List Int).length g.2.1, .bool false, .slice g.2.2.1 ([] : List Wt).length g.2.2.2] 202 (0, 0)), sl 3 1 g.1 ([] : List Int).length g.2.1 (([] : List Int).flatMap ei), sl 197 3 g.2.2.1 ([] : List Wt).length g.2.2.2 (([] : List Wt).flatMap encW)]) (none, 0, none, 0) ?_
  exact Sat.tail_mono (fun _ h1 => Sat.sl_new (Sat.sl_new h1)) hs
theorem kind_of {a b : Int} {k : Int} (h : (k != a && k != b) = false) : ¬ (k ≠ a ∧ k ≠ b) := by rintro ⟨h1, h2⟩; simp [h1, h2] at h
theorem kind_no {a b : Int} {k : Int} (h : (k != a && k != b) = true) : k ≠ a ∧ k ≠ b := by simpa using h
theorem ask_kind {tok : Nat} {m : Lks} {c : Cm} (h : c.kind ≠ 5 ∧ c.kind ≠ 7) : askM tok m c = ([], false, tok, m) := by unfold askM; rw [if_pos h]
theorem ask_full {tok : Nat} {m : Lks} {c : Cm} (hk : ¬ (c.kind ≠ 5 ∧ c.kind ≠ 7)) (hg : aget c.name m = none) (h : 256 ≤ m.length) : askM tok m c = (oneR c 17, false, tok, m) := by unfold askM; rw [if_neg hk, hg]; simp only; rw [if_pos h]
theorem ask_new {tok : Nat} {m : Lks} {c : Cm} (hk : ¬ (c.kind ≠ 5 ∧ c.kind ≠ 7)) (hg : aget c.name m = none) (h : ¬ 256 ≤ m.length) (he : (grantR tok (wtC c)).err = 0) : askM tok m c = ([grantR tok (wtC c)], false, grantT tok (wtC c), aput c.name (grantX tok ⟨[], false, []⟩ (wtC c)) m) := by
  unfold askM; rw [if_neg hk, hg]; simp only; rw [if_neg h, if_pos he]
theorem ask_new' {tok : Nat} {m : Lks} {c : Cm} (hk : ¬ (c.kind ≠ 5 ∧ c.kind ≠ 7)) (hg : aget c.name m = none) (h : ¬ 256 ≤ m.length) (he : (grantR tok (wtC c)).err ≠ 0) : askM tok m c = ([grantR tok (wtC c)], false, grantT tok (wtC c), m) := by
  unfold askM; rw [if_neg hk, hg]; simp only; rw [if_neg h, if_neg he]
theorem ask_held {tok : Nat} {m : Lks} {c : Cm} {x : Lk} (hk : ¬ (c.kind ≠ 5 ∧ c.kind ≠ 7)) (hg : aget c.name m = some x) (h : asksX x c.session = true) : askM tok m c = (oneR c 12, false, tok, m) := by unfold askM; rw [if_neg hk, hg]; simp only; rw [if_pos h]
theorem ask_join {tok : Nat} {m : Lks} {c : Cm} {x : Lk} (hk : ¬ (c.kind ≠ 5 ∧ c.kind ≠ 7)) (hg : aget c.name m = some x) (h : asksX x c.session = false) (hr : ((c.kind == 7) && !x.writer && (x.queue.length == 0)) = true) :
    askM tok m c = ([grantR tok (wtC c)], false, grantT tok (wtC c), aput c.name (grantX tok x (wtC c)) m) := by unfold askM; rw [if_neg hk, hg]; simp only; rw [if_neg (by rw [h]; simp), if_pos hr]
theorem ask_wait {tok : Nat} {m : Lks} {c : Cm} {x : Lk} (hk : ¬ (c.kind ≠ 5 ∧ c.kind ≠ 7)) (hg : aget c.name m = some x) (h : asksX x c.session = false) (hr : ((c.kind == 7) && !x.writer && (x.queue.length == 0)) = false) :
    askM tok m c = ([], true, tok, aput c.name ⟨x.held, x.writer, x.queue ++ [wtC c]⟩ m) := by unfold askM; rw [if_neg hk, hg]; simp only; rw [if_neg (by rw [h]; simp), if_neg (by rw [hr]; simp)]
theorem wait_cond {k : Int} {w b : Bool} {n : Nat} (h : ((k == 7) && !w && ((n : Int) == 0)) = b) : ((k == 7) && !w && (n == 0)) = b := by
  rw [← h]
  have : ((n : Int) == 0) = (n == 0) := by rw [Bool.eq_iff_iff]; simp
  rw [this]
theorem rel_kind {tok : Nat} {m : Lks} {c : Cm} (h : c.kind ≠ 6 ∧ c.kind ≠ 8) : releaseM tok m c = ([], tok, m) := by unfold releaseM; rw [if_pos h]
theorem rel_none {tok : Nat} {m : Lks} {c : Cm} (hk : ¬ (c.kind ≠ 6 ∧ c.kind ≠ 8)) (hg : aget c.name m = none) : releaseM tok m c = (oneR c 13, tok, m) := by unfold releaseM; rw [if_neg hk, hg]
theorem rel_not {tok : Nat} {m : Lks} {c : Cm} {x : Lk} (hk : ¬ (c.kind ≠ 6 ∧ c.kind ≠ 8)) (hg : aget c.name m = some x) (h : x.writer ≠ (c.kind == 6) ∨ x.held.any (fun y => c.session == y) = false) : releaseM tok m c = (oneR c 13, tok, m) := by unfold releaseM; rw [if_neg hk, hg]; simp only; rw [if_pos h]
theorem rel_yes {tok : Nat} {m : Lks} {c : Cm} {x : Lk} (hk : ¬ (c.kind ≠ 6 ∧ c.kind ≠ 8)) (hg : aget c.name m = some x) (h : ¬ (x.writer ≠ (c.kind == 6) ∨ x.held.any (fun y => c.session == y) = false)) :
    releaseM tok m c = (oneR c 0 ++ (serveM tok m c.name ⟨x.held.filter (fun y => !(y == c.session)), x.writer, x.queue⟩).1, (serveM tok m c.name ⟨x.held.filter (fun y => !(y == c.session)), x.writer, x.queue⟩).2) := by unfold releaseM; rw [if_neg hk, hg]; simp only; rw [if_neg h]

set_option maxRecDepth 100000 in
set_option maxHeartbeats 8000000 in
theorem lk_ask (b tok n : Nat) (m : Lks) (c : Cm) (hm : okM n m) (hn : n ≤ 536870912) (ht : tok ≤ topTok) (hc9 : c.name.length ≤ 1099511627776) : Spec Try.prog 41 [(.pointer (some ⟨b, 0, none⟩)), (.agg #[(.int .i64 c.kind), (.int .i64 c.session), (.int .i64 c.seq), (.string (ba c.name)), (.int .i64 c.n)])] [(LocksR m tok b)] (fun x : Option Addr × Nat => .tuple #[.slice x.1 (askM tok m c).1.length x.2, .bool (askM tok m c).2.1]) (fun x : Option Addr × Nat => [sl 56 5 x.1 (askM tok m c).1.length x.2 ((askM tok m c).1.flatMap encR), LocksR (askM tok m c).2.2.2 (askM tok m c).2.2.1 b]) := by
  refine spec_of (fn := Try.f41) Try.func41 rfl rfl rfl fun F s => ?_
  show CJ _ _ _ _ _ [(0, (.pointer (some ⟨b, 0, none⟩))), (1, (.agg #[(.int .i64 c.kind), (.int .i64 c.session), (.int .i64 c.seq), (.string (ba c.name)), (.int .i64 c.n)]))] [(LocksR m tok b), F]
  refine cj_seq ?_
  refine cj_region ?_
  refine oj_e (oe_box rfl rfl) rfl rfl rfl (fun b1 => ?_)
  refine oj_eq (e' := [(3, (.pointer (some ⟨b1, 0, none⟩))), (0, (.pointer (some ⟨b, 0, none⟩))), (1, (.agg #[(.int .i64 c.kind), (.int .i64 c.session), (.int .i64 c.seq), (.string (ba c.name)), (.int .i64 c.n)]))]) (l' := [(pts b1 (.cells #[(.int .i64 c.kind), (.int .i64 c.session), (.int .i64 c.seq), (.string (ba c.name)), (.int .i64 c.n)] 24 (0, 0))), (LocksR m tok b), F]) rfl rfl ?_
  refine oj_v (ov_assign rfl rfl) rfl rfl rfl ?_
  refine oj_v (ov_assign rfl rfl) rfl rfl rfl ?_
  refine oj_nil ?_
  refine xj_then ?_
  refine cj_seq ?_
  refine cj_seq ?_
  refine cj_pass (e' := [(20, (.bool ((c.kind != 5) && (c.kind != 7)))), (5, (.bool false)), (4, (.slice none 0 0)), (3, (.pointer (some ⟨b1, 0, none⟩))), (0, (.pointer (some ⟨b, 0, none⟩)))]) (l' := [(pts b1 (.cells #[(.int .i64 c.kind), (.int .i64 c.session), (.int .i64 c.seq), (.string (ba c.name)), (.int .i64 c.n)] 24 (0, 0))), (LocksR m tok b), F]) ?_ ?_
  · refine cj_region ?_
    refine og_v (ov_move rfl rfl) rfl rfl rfl ?_
    refine og_v (ov_peql rfl rfl rfl Try.underlying78) rfl rfl rfl ?_
    refine og_v (ov_move rfl rfl) rfl rfl rfl ?_
    refine og_v (ov_fieldAddr rfl rfl T_f24_0) rfl rfl rfl ?_
    refine og_v (ov_load1 (v := (.int .i64 c.kind)) rfl rfl T_o3 (rd_pts (i := 0) rfl rfl)) rfl rfl rfl ?_
    refine og_v (ov_neq rfl rfl rfl) rfl rfl rfl ?_
    refine og_v (ov_move rfl rfl) rfl rfl rfl ?_
    refine oj_case (fun h2 => ?_) (fun h2 => ?_)
    · have c3 : c.kind ≠ 5 := by simpa using h2
      refine og_v (ov_fieldAddr rfl rfl T_f24_0) rfl rfl rfl ?_
      refine og_v (ov_load1 (v := (.int .i64 c.kind)) rfl rfl T_o3 (rd_pts (i := 0) rfl rfl)) rfl rfl rfl ?_
      refine og_v (ov_neq rfl rfl rfl) rfl rfl rfl ?_
      refine og_v (ov_pick rfl rfl rfl rfl) rfl rfl rfl ?_
      refine og_v (ov_pick rfl rfl rfl rfl) rfl rfl rfl ?_
      refine oj_nil ?_
      exact xj_pass (EnvLe.cons (by first | (simp [look, h2]; done) | (simp [look, h2]; omega) | (simp [look, h2]; intros; omega)) (EnvLe.cons rfl (EnvLe.cons rfl (EnvLe.cons rfl (EnvLe.cons rfl (EnvLe.nil _)))))) (fun _ h => h)
    · have c4 : c.kind = 5 := by simpa using h2
      refine og_skip rfl rfl rfl ?_
      refine og_skip rfl rfl rfl ?_
      refine og_skip rfl rfl rfl ?_
      refine og_v (ov_pick rfl rfl rfl rfl) rfl rfl rfl ?_
      refine og_v (ov_pick rfl rfl rfl rfl) rfl rfl rfl ?_
      refine oj_nil ?_
      exact xj_pass (EnvLe.cons (by first | (simp [look, h2]; done) | (simp [look, h2]; omega) | (simp [look, h2]; intros; omega)) (EnvLe.cons rfl (EnvLe.cons rfl (EnvLe.cons rfl (EnvLe.cons rfl (EnvLe.nil _)))))) (fun _ h => h)
  · refine xj_then ?_
    refine cj_cond (b := (c.kind != 5) && (c.kind != 7)) rfl (fun h5 => ?_) (fun h5 => ?_)
    · obtain ⟨h6, h7⟩ := Bool.and_eq_true_iff.1 h5
      have c8 : c.kind ≠ 5 := by simpa using h6
      have c9 : c.kind ≠ 7 := by simpa using h7
      refine cj_seq ?_
      refine cj_region ?_
      refine oj_v (ov_assign rfl rfl) rfl rfl rfl ?_
      refine oj_v (ov_assign rfl rfl) rfl rfl rfl ?_
      refine oj_nil ?_
      refine xj_then ?_
      refine cj_weak (e' := [(5, (.bool false)), (4, (.slice none 0 0)), (3, (.pointer (some ⟨b1, 0, none⟩))), (0, (.pointer (some ⟨b, 0, none⟩)))]) (EnvLe.cons rfl (EnvLe.cons rfl (EnvLe.cons rfl (EnvLe.cons rfl (EnvLe.nil _))))) (fun _ h => h) ?_
      refine cj_ret ?_
      refine xj_then_other (by simp) ?_
      rw [ask_kind (kind_no h5)]
      refine xj_ret (vs := [(.slice none 0 0), (.bool false)]) (none, 0) rfl rfl ?_
      exact fun h hs => (fun h hs => Sat.sl_new hs) h (sat_sub (l' := [(LocksR m tok b), F]) [1, 2] [0] (by decide +kernel) rfl rfl h hs)
    · have c10 := Bool.and_eq_false_iff.1 h5
      refine cj_skip ?_
      refine xj_then ?_
      refine cj_seq ?_
      refine cj_region ?_
      refine oj_v (ov_fieldAddr rfl rfl T_f24_1) rfl rfl rfl ?_
      refine oj_v (ov_load1 (v := (.int .i64 c.session)) rfl rfl T_o3 (rd_pts (i := 0) rfl rfl)) rfl rfl rfl ?_
      refine oj_v (ov_fieldAddr rfl rfl T_f24_2) rfl rfl rfl ?_
      refine oj_v (ov_load1 (v := (.int .i64 c.seq)) rfl rfl T_o3 (rd_pts (i := 0) rfl rfl)) rfl rfl rfl ?_
      refine oj_v (ov_fieldAddr rfl rfl T_f24_0) rfl rfl rfl ?_
      refine oj_v (ov_load1 (v := (.int .i64 c.kind)) rfl rfl T_o3 (rd_pts (i := 0) rfl rfl)) rfl rfl rfl ?_
      refine oj_v (ov_eql rfl rfl rfl) rfl rfl rfl ?_
      refine oj_v (ov_build (cells := #[(.int .i64 c.session), (.int .i64 c.seq), (.bool (c.kind == 7))]) rfl T_z197 T_p197 rfl rfl) rfl rfl rfl ?_
      refine oj_e (oe_alloc rfl T_z197) rfl rfl rfl (fun b11 => ?_)
      refine oj_eq (e' := [(6, (.pointer (some ⟨b11, 0, none⟩))), (28, (.agg #[(.int .i64 c.session), (.int .i64 c.seq), (.bool (c.kind == 7))])), (27, (.bool (c.kind == 7))), (26, (.int .i64 c.kind)), (25, (.pointer (some ⟨b1, 0, none⟩))), (24, (.int .i64 c.seq)), (23, (.pointer (some ⟨b1, 2, none⟩))), (22, (.int .i64 c.session)), (21, (.pointer (some ⟨b1, 1, none⟩))), (20, (.bool ((c.kind != 5) && (c.kind != 7)))), (5, (.bool false)), (4, (.slice none 0 0)), (3, (.pointer (some ⟨b1, 0, none⟩))), (0, (.pointer (some ⟨b, 0, none⟩)))]) (l' := [(pts b11 (.cells #[(.int .i64 0), (.int .i64 0), (.bool false)] 197 (0, 0))), (pts b1 (.cells #[(.int .i64 c.kind), (.int .i64 c.session), (.int .i64 c.seq), (.string (ba c.name)), (.int .i64 c.n)] 24 (0, 0))), (LocksR m tok b), F]) rfl rfl ?_
      refine oj_e0 (oe_storen (i := 0) rfl rfl rfl T_a197 rfl rfl (by simp [Value.oneCell'])) rfl rfl (fun _ => ?_)
      refine oj_eq (e' := [(6, (.pointer (some ⟨b11, 0, none⟩))), (28, (.agg #[(.int .i64 c.session), (.int .i64 c.seq), (.bool (c.kind == 7))])), (27, (.bool (c.kind == 7))), (26, (.int .i64 c.kind)), (25, (.pointer (some ⟨b1, 0, none⟩))), (24, (.int .i64 c.seq)), (23, (.pointer (some ⟨b1, 2, none⟩))), (22, (.int .i64 c.session)), (21, (.pointer (some ⟨b1, 1, none⟩))), (20, (.bool ((c.kind != 5) && (c.kind != 7)))), (5, (.bool false)), (4, (.slice none 0 0)), (3, (.pointer (some ⟨b1, 0, none⟩))), (0, (.pointer (some ⟨b, 0, none⟩)))]) (l' := [(pts b11 (.cells #[(.int .i64 c.session), (.int .i64 c.seq), (.bool (c.kind == 7))] 197 (0, 0))), (pts b1 (.cells #[(.int .i64 c.kind), (.int .i64 c.session), (.int .i64 c.seq), (.string (ba c.name)), (.int .i64 c.n)] 24 (0, 0))), (LocksR m tok b), F]) rfl rfl ?_
      refine oj_nil ?_
      refine xj_then ?_
      refine cj_weak (e' := [(6, (.pointer (some ⟨b11, 0, none⟩))), (5, (.bool false)), (4, (.slice none 0 0)), (3, (.pointer (some ⟨b1, 0, none⟩))), (0, (.pointer (some ⟨b, 0, none⟩)))]) (EnvLe.cons rfl (EnvLe.cons rfl (EnvLe.cons rfl (EnvLe.cons rfl (EnvLe.cons rfl (EnvLe.nil _)))))) (fun _ h => h) ?_
      refine cj_seq ?_
      refine cj_out (sat_open 2 rfl) (fun x12 => ?_)
      obtain ⟨mb, l⟩ := x12
      refine cj_eq (e' := [(6, (.pointer (some ⟨b11, 0, none⟩))), (5, (.bool false)), (4, (.slice none 0 0)), (3, (.pointer (some ⟨b1, 0, none⟩))), (0, (.pointer (some ⟨b, 0, none⟩)))]) (l' := [(fact (l.map (fun e => (e.1, e.2.2)) = m)), (pts b (.cells #[(.map (some mb)), (.int .u64 (tok : Int))] 195 (0, 0))), (mp encS mb (l.map ptrE)), (all lockE l), (pts b11 (.cells #[(.int .i64 c.session), (.int .i64 c.seq), (.bool (c.kind == 7))] 197 (0, 0))), (pts b1 (.cells #[(.int .i64 c.kind), (.int .i64 c.session), (.int .i64 c.seq), (.string (ba c.name)), (.int .i64 c.n)] 24 (0, 0))), F]) rfl rfl ?_
      refine cj_fact (sat_fact 0 rfl) (fun f13 => ?_)
      refine cj_sat (l' := [(pts b (.cells #[(.map (some mb)), (.int .u64 (tok : Int))] 195 (0, 0))), (mp encS mb (l.map ptrE)), (all lockE l), (pts b11 (.cells #[(.int .i64 c.session), (.int .i64 c.seq), (.bool (c.kind == 7))] 197 (0, 0))), (pts b1 (.cells #[(.int .i64 c.kind), (.int .i64 c.session), (.int .i64 c.seq), (.string (ba c.name)), (.int .i64 c.n)] 24 (0, 0))), F]) (sat_sub [1, 2, 3, 4, 5, 6] [0] (by decide +kernel) rfl rfl) ?_
      have hrl := rising_l f13 hm.1
      have hll := len_l f13
      have hmx := hm.2.1
      rcases hget : aget c.name m with _ | x0
      · obtain ⟨hnk, hnl⟩ := find_no f13 hget
        refine cj_sched [(pts b (.cells #[(.map (some mb)), (.int .u64 (tok : Int))] 195 (0, 0))), (mp encS mb (l.map ptrE)), (pts b1 (.cells #[(.int .i64 c.kind), (.int .i64 c.session), (.int .i64 c.seq), (.string (ba c.name)), (.int .i64 c.n)] 24 (0, 0)))] [] [(0, true), (1, true), (2, true), (3, true), (4, false), (5, false), (6, false), (7, false)] T_mixed (by decide +kernel) rfl ?_
        refine dj_eq (e' := [(6, (.pointer (some ⟨b11, 0, none⟩))), (5, (.bool false)), (4, (.slice none 0 0)), (3, (.pointer (some ⟨b1, 0, none⟩))), (0, (.pointer (some ⟨b, 0, none⟩)))]) (l' := [(pts b (.cells #[(.map (some mb)), (.int .u64 (tok : Int))] 195 (0, 0))), (mp encS mb (l.map ptrE)), (all lockE l), (pts b11 (.cells #[(.int .i64 c.session), (.int .i64 c.seq), (.bool (c.kind == 7))] 197 (0, 0))), (pts b1 (.cells #[(.int .i64 c.kind), (.int .i64 c.session), (.int .i64 c.seq), (.string (ba c.name)), (.int .i64 c.n)] 24 (0, 0))), F]) rfl rfl ?_
        refine dj_v (np_then np_body) (ov_move rfl rfl) rfl rfl rfl (sat_sub [0, 1, 4] [2, 3, 5] (by decide +kernel) rfl rfl) ?_
        refine dj_v (np_then np_body) (ov_nilCheck rfl rfl) rfl rfl rfl (sat_sub [0, 1, 4] [2, 3, 5] (by decide +kernel) rfl rfl) ?_
        refine dj_v (np_then np_body) (ov_fieldAddr rfl rfl T_f195_0) rfl rfl rfl (sat_sub [0, 1, 4] [2, 3, 5] (by decide +kernel) rfl rfl) ?_
        refine dj_v (np_then np_body) (ov_load1 (v := (.map (some mb))) rfl rfl T_o193 (rd_pts (i := 0) rfl rfl)) rfl rfl rfl (sat_sub [0, 1, 4] [2, 3, 5] (by decide +kernel) rfl rfl) ?_
        refine dj_e (oe_of_v (ov_fieldAddr rfl rfl T_f24_3)) rfl rfl rfl (.inr (fun _ => sat_sub [0, 1, 4] [2, 3, 5] (by decide +kernel) rfl rfl)) (fun _ => ?_)
        refine dj_e (oe_of_v (ov_load1 (v := (.string (ba c.name))) rfl rfl T_o9 (rd_pts (i := 4) rfl rfl))) rfl rfl rfl (.inr (fun _ => sat_sub [0, 1, 4] [2, 3, 5] (by decide +kernel) rfl rfl)) (fun _ => ?_)
        refine dj_e (oe_of_v (ov_lookup (i := 1) (k := c.name) (κ := encS) rfl rfl rfl Try.underlying193 Try.underlying9 T_z198 rfl)) rfl rfl rfl (.inr (fun _ => sat_sub [0, 1, 4] [2, 3, 5] (by decide +kernel) rfl rfl)) (fun _ => ?_)
        refine dj_head (v' := (.pointer none)) (by rw [hnk]; rfl) ?_
        refine dj_e (oe_of_v (ov_assign rfl rfl)) rfl rfl rfl (.inr (fun _ => sat_sub [0, 1, 4] [2, 3, 5] (by decide +kernel) rfl rfl)) (fun _ => ?_)
        refine dj_nil ?_
        refine xj_then ?_
        refine cj_weak (e' := [(7, (.pointer none)), (6, (.pointer (some ⟨b11, 0, none⟩))), (5, (.bool false)), (4, (.slice none 0 0)), (3, (.pointer (some ⟨b1, 0, none⟩))), (0, (.pointer (some ⟨b, 0, none⟩)))]) (EnvLe.cons rfl (EnvLe.cons rfl (EnvLe.cons rfl (EnvLe.cons rfl (EnvLe.cons rfl (EnvLe.cons rfl (EnvLe.nil _))))))) (fun _ h => h) ?_
        refine cj_seq ?_
        refine cj_block ?_
        refine cj_seq ?_
        refine cj_pass (e' := [(36, (.bool (decide (256 ≤ ((l.map ptrE).length : Int))))), (7, (.pointer none)), (6, (.pointer (some ⟨b11, 0, none⟩))), (5, (.bool false)), (4, (.slice none 0 0)), (3, (.pointer (some ⟨b1, 0, none⟩))), (0, (.pointer (some ⟨b, 0, none⟩)))]) (l' := [(pts b (.cells #[(.map (some mb)), (.int .u64 (tok : Int))] 195 (0, 0))), (mp encS mb (l.map ptrE)), (all lockE l), (pts b11 (.cells #[(.int .i64 c.session), (.int .i64 c.seq), (.bool (c.kind == 7))] 197 (0, 0))), (pts b1 (.cells #[(.int .i64 c.kind), (.int .i64 c.session), (.int .i64 c.seq), (.string (ba c.name)), (.int .i64 c.n)] 24 (0, 0))), F]) ?_ ?_
        · refine cj_region ?_
          refine og_v (ov_move rfl rfl) rfl rfl rfl ?_
          refine og_v (ov_peql rfl rfl rfl Try.underlying198) rfl rfl rfl ?_
          refine og_v (ov_move rfl rfl) rfl rfl rfl ?_
          refine og_v (ov_move rfl rfl) rfl rfl rfl ?_
          refine og_v (ov_nilCheck rfl rfl) rfl rfl rfl ?_
          refine og_v (ov_fieldAddr rfl rfl T_f195_0) rfl rfl rfl ?_
          refine og_v (ov_load1 (v := (.map (some mb))) rfl rfl T_o193 (rd_pts (i := 0) rfl rfl)) rfl rfl rfl ?_
          refine og_v (ov_lenM (i := 1) (κ := encS) rfl rfl rfl Try.underlying193 rfl) rfl rfl rfl ?_
          refine og_v (ov_geq rfl rfl rfl) rfl rfl rfl ?_
          refine og_v (ov_pick rfl rfl rfl rfl) rfl rfl rfl ?_
          refine og_v (ov_assign rfl rfl) rfl rfl rfl ?_
          refine oj_nil ?_
          exact xj_pass (EnvLe.cons rfl (EnvLe.cons rfl (EnvLe.cons rfl (EnvLe.cons rfl (EnvLe.cons rfl (EnvLe.cons rfl (EnvLe.cons rfl (EnvLe.nil _)))))))) (fun _ h => h)
        · refine xj_then ?_
          refine cj_cond (b := decide (256 ≤ ((l.map ptrE).length : Int))) rfl (fun h14 => ?_) (fun h14 => ?_)
          · have c15 : 256 ≤ ((l.map ptrE).length : Int) := of_decide_eq_true h14
            refine cj_seq ?_
            refine cj_region ?_
            refine oj_v (ov_loadn (cs := [(.int .i64 c.kind), (.int .i64 c.session), (.int .i64 c.seq), (.string (ba c.name)), (.int .i64 c.n)]) rfl rfl T_a24 (rds_pts (i := 4) rfl rfl)) rfl rfl rfl ?_
            refine oj_e (oe_call rfl rfl rfl Try.func121 rfl rfl (rest := [(pts b (.cells #[(.map (some mb)), (.int .u64 (tok : Int))] 195 (0, 0))), (mp encS mb (l.map ptrE)), (all lockE l), (pts b11 (.cells #[(.int .i64 c.session), (.int .i64 c.seq), (.bool (c.kind == 7))] 197 (0, 0))), (pts b1 (.cells #[(.int .i64 c.kind), (.int .i64 c.session), (.int .i64 c.seq), (.string (ba c.name)), (.int .i64 c.n)] 24 (0, 0))), F]) (lk_one c 17) (js := [0, 1, 2, 3, 4, 5]) ⟨by decide +kernel, rfl, rfl⟩) rfl rfl rfl (fun q16 => ?_)
            refine oj_eq (e' := [(48, (.slice q16.1 1 q16.2)), (47, (.agg #[(.int .i64 c.kind), (.int .i64 c.session), (.int .i64 c.seq), (.string (ba c.name)), (.int .i64 c.n)])), (36, (.bool (decide (256 ≤ ((l.map ptrE).length : Int))))), (7, (.pointer none)), (6, (.pointer (some ⟨b11, 0, none⟩))), (5, (.bool false)), (4, (.slice none 0 0)), (3, (.pointer (some ⟨b1, 0, none⟩))), (0, (.pointer (some ⟨b, 0, none⟩)))]) (l' := [(sl 56 5 q16.1 1 q16.2 ((oneR c 17).flatMap encR)), (pts b (.cells #[(.map (some mb)), (.int .u64 (tok : Int))] 195 (0, 0))), (mp encS mb (l.map ptrE)), (all lockE l), (pts b11 (.cells #[(.int .i64 c.session), (.int .i64 c.seq), (.bool (c.kind == 7))] 197 (0, 0))), (pts b1 (.cells #[(.int .i64 c.kind), (.int .i64 c.session), (.int .i64 c.seq), (.string (ba c.name)), (.int .i64 c.n)] 24 (0, 0))), F]) rfl rfl ?_
            obtain ⟨qa, qc⟩ := q16
            refine oj_eq (e' := [(48, (.slice qa 1 qc)), (47, (.agg #[(.int .i64 c.kind), (.int .i64 c.session), (.int .i64 c.seq), (.string (ba c.name)), (.int .i64 c.n)])), (36, (.bool (decide (256 ≤ ((l.map ptrE).length : Int))))), (7, (.pointer none)), (6, (.pointer (some ⟨b11, 0, none⟩))), (5, (.bool false)), (4, (.slice none 0 0)), (3, (.pointer (some ⟨b1, 0, none⟩))), (0, (.pointer (some ⟨b, 0, none⟩)))]) (l' := [(sl 56 5 qa 1 qc ((oneR c 17).flatMap encR)), (pts b (.cells #[(.map (some mb)), (.int .u64 (tok : Int))] 195 (0, 0))), (mp encS mb (l.map ptrE)), (all lockE l), (pts b11 (.cells #[(.int .i64 c.session), (.int .i64 c.seq), (.bool (c.kind == 7))] 197 (0, 0))), (pts b1 (.cells #[(.int .i64 c.kind), (.int .i64 c.session), (.int .i64 c.seq), (.string (ba c.name)), (.int .i64 c.n)] 24 (0, 0))), F]) rfl rfl ?_
            refine oj_v (ov_assign rfl rfl) rfl rfl rfl ?_
            refine oj_v (ov_assign rfl rfl) rfl rfl rfl ?_
            refine oj_nil ?_
            refine xj_then ?_
            refine cj_weak (e' := [(5, (.bool false)), (4, (.slice qa 1 qc)), (7, (.pointer none)), (6, (.pointer (some ⟨b11, 0, none⟩)))]) (EnvLe.cons rfl (EnvLe.cons rfl (EnvLe.cons rfl (EnvLe.cons rfl (EnvLe.nil _))))) (fun _ h => h) ?_
            refine cj_ret ?_
            refine xj_block_ret ?_
            refine xj_then_other (by simp) ?_
            rw [ask_full (kind_of h5) hget (by omega)]
            refine xj_ret (vs := [(.slice qa 1 qc), (.bool false)]) (qa, qc) rfl rfl ?_
            exact fun h hs => (fun h hs => Sat.tail_mono (locks_close f13) hs) h (sat_sub (l' := [(sl 56 5 qa 1 qc ((oneR c 17).flatMap encR)), (pts b (.cells #[(.map (some mb)), (.int .u64 (tok : Int))] 195 (0, 0))), (mp encS mb (l.map ptrE)), (all lockE l), F]) [0, 1, 2, 3, 6] [4, 5] (by decide +kernel) rfl rfl h hs)
          · have c17 : ¬ (256 ≤ ((l.map ptrE).length : Int)) := of_decide_eq_false h14
            refine cj_seq ?_
            refine cj_region ?_
            refine oj_v (ov_move rfl rfl) rfl rfl rfl ?_
            refine oj_v (ov_peql rfl rfl rfl Try.underlying198) rfl rfl rfl ?_
            refine oj_v (ov_assign rfl rfl) rfl rfl rfl ?_
            refine oj_nil ?_
            refine xj_then ?_
            refine cj_weak (e' := [(49, (.bool true)), (7, (.pointer none)), (6, (.pointer (some ⟨b11, 0, none⟩))), (5, (.bool false)), (4, (.slice none 0 0)), (3, (.pointer (some ⟨b1, 0, none⟩))), (0, (.pointer (some ⟨b, 0, none⟩)))]) (EnvLe.cons rfl (EnvLe.cons rfl (EnvLe.cons rfl (EnvLe.cons rfl (EnvLe.cons rfl (EnvLe.cons rfl (EnvLe.cons rfl (EnvLe.nil _)))))))) (fun _ h => h) ?_
            refine cj_true rfl ?_
            refine cj_seq ?_
            refine cj_region ?_
            refine oj_v (ov_build (cells := #[(.slice none 0 0), (.bool false), (.slice none 0 0)]) rfl T_z202 T_p202 rfl rfl) rfl rfl rfl ?_
            refine oj_e (oe_box rfl rfl) rfl rfl rfl (fun b18 => ?_)
            refine oj_eq (e' := [(53, (.pointer (some ⟨b18, 0, none⟩))), (52, (.agg #[(.slice none 0 0), (.bool false), (.slice none 0 0)])), (49, (.bool true)), (7, (.pointer none)), (6, (.pointer (some ⟨b11, 0, none⟩))), (5, (.bool false)), (4, (.slice none 0 0)), (3, (.pointer (some ⟨b1, 0, none⟩))), (0, (.pointer (some ⟨b, 0, none⟩)))]) (l' := [(pts b18 (.cells #[(.slice none 0 0), (.bool false), (.slice none 0 0)] 202 (0, 0))), (pts b (.cells #[(.map (some mb)), (.int .u64 (tok : Int))] 195 (0, 0))), (mp encS mb (l.map ptrE)), (all lockE l), (pts b11 (.cells #[(.int .i64 c.session), (.int .i64 c.seq), (.bool (c.kind == 7))] 197 (0, 0))), (pts b1 (.cells #[(.int .i64 c.kind), (.int .i64 c.session), (.int .i64 c.seq), (.string (ba c.name)), (.int .i64 c.n)] 24 (0, 0))), F]) rfl rfl ?_
            refine oj_v (ov_assign rfl rfl) rfl rfl rfl ?_
            refine oj_nil ?_
            refine xj_then ?_
            refine cj_weak (e' := [(7, (.pointer (some ⟨b18, 0, none⟩))), (6, (.pointer (some ⟨b11, 0, none⟩))), (5, (.bool false)), (4, (.slice none 0 0)), (3, (.pointer (some ⟨b1, 0, none⟩))), (0, (.pointer (some ⟨b, 0, none⟩)))]) (EnvLe.cons rfl (EnvLe.cons rfl (EnvLe.cons rfl (EnvLe.cons rfl (EnvLe.cons rfl (EnvLe.cons rfl (EnvLe.nil _))))))) (fun _ h => h) ?_
            refine cj_seq ?_
            refine cj_region ?_
            refine oj_v (ov_move rfl rfl) rfl rfl rfl ?_
            refine oj_v (ov_move rfl rfl) rfl rfl rfl ?_
            refine oj_v (ov_loadn (cs := [(.int .i64 c.session), (.int .i64 c.seq), (.bool (c.kind == 7))]) rfl rfl T_a197 (rds_pts (i := 4) rfl rfl)) rfl rfl rfl ?_
            refine oj_sat (l' := [(LockR (Lk.mk [] false []) b18), (pts b (.cells #[(.map (some mb)), (.int .u64 (tok : Int))] 195 (0, 0))), (mp encS mb (l.map ptrE)), (all lockE l), (pts b11 (.cells #[(.int .i64 c.session), (.int .i64 c.seq), (.bool (c.kind == 7))] 197 (0, 0))), (pts b1 (.cells #[(.int .i64 c.kind), (.int .i64 c.session), (.int .i64 c.seq), (.string (ba c.name)), (.int .i64 c.n)] 24 (0, 0))), F]) (fun h hs => lock_new h (sat_js (l' := [(pts b18 (.cells #[(.slice none 0 0), (.bool false), (.slice none 0 0)] 202 (0, 0))), (pts b (.cells #[(.map (some mb)), (.int .u64 (tok : Int))] 195 (0, 0))), (mp encS mb (l.map ptrE)), (all lockE l), (pts b11 (.cells #[(.int .i64 c.session), (.int .i64 c.seq), (.bool (c.kind == 7))] 197 (0, 0))), (pts b1 (.cells #[(.int .i64 c.kind), (.int .i64 c.session), (.int .i64 c.seq), (.string (ba c.name)), (.int .i64 c.n)] 24 (0, 0))), F]) [0, 1, 2, 3, 4, 5, 6] (by decide +kernel) rfl rfl h hs)) ?_
            refine oj_e (oe_call rfl rfl rfl Try.func122 rfl rfl (rest := [(mp encS mb (l.map ptrE)), (all lockE l), (pts b11 (.cells #[(.int .i64 c.session), (.int .i64 c.seq), (.bool (c.kind == 7))] 197 (0, 0))), (pts b1 (.cells #[(.int .i64 c.kind), (.int .i64 c.session), (.int .i64 c.seq), (.string (ba c.name)), (.int .i64 c.n)] 24 (0, 0))), F]) (lk_grant b b18 mb tok (Lk.mk [] false []) (wtC c) (by simp) (by simp) ht) (js := [1, 0, 2, 3, 4, 5, 6]) ⟨by decide +kernel, rfl, rfl⟩) rfl rfl rfl (fun _ => ?_)
            refine oj_eq (e' := [(57, (.agg #[(.int .i64 ((grantR tok (wtC c)).session)), (.int .i64 ((grantR tok (wtC c)).seq)), (.int .i64 ((grantR tok (wtC c)).err)), (.int .u64 ((grantR tok (wtC c)).token : Int)), (.int .i64 ((grantR tok (wtC c)).n))])), (56, (.agg #[(.int .i64 c.session), (.int .i64 c.seq), (.bool (c.kind == 7))])), (55, (.pointer (some ⟨b18, 0, none⟩))), (54, (.pointer (some ⟨b, 0, none⟩))), (7, (.pointer (some ⟨b18, 0, none⟩))), (6, (.pointer (some ⟨b11, 0, none⟩))), (5, (.bool false)), (4, (.slice none 0 0)), (3, (.pointer (some ⟨b1, 0, none⟩))), (0, (.pointer (some ⟨b, 0, none⟩)))]) (l' := [(pts b (.cells #[(.map (some mb)), (.int .u64 ((grantT tok (wtC c)) : Int))] 195 (0, 0))), (LockR (grantX tok (Lk.mk [] false []) (wtC c)) b18), (mp encS mb (l.map ptrE)), (all lockE l), (pts b11 (.cells #[(.int .i64 c.session), (.int .i64 c.seq), (.bool (c.kind == 7))] 197 (0, 0))), (pts b1 (.cells #[(.int .i64 c.kind), (.int .i64 c.session), (.int .i64 c.seq), (.string (ba c.name)), (.int .i64 c.n)] 24 (0, 0))), F]) rfl rfl ?_
            refine oj_e (oe_alloc rfl T_z56) rfl rfl rfl (fun b19 => ?_)
            refine oj_eq (e' := [(8, (.pointer (some ⟨b19, 0, none⟩))), (57, (.agg #[(.int .i64 ((grantR tok (wtC c)).session)), (.int .i64 ((grantR tok (wtC c)).seq)), (.int .i64 ((grantR tok (wtC c)).err)), (.int .u64 ((grantR tok (wtC c)).token : Int)), (.int .i64 ((grantR tok (wtC c)).n))])), (56, (.agg #[(.int .i64 c.session), (.int .i64 c.seq), (.bool (c.kind == 7))])), (55, (.pointer (some ⟨b18, 0, none⟩))), (54, (.pointer (some ⟨b, 0, none⟩))), (7, (.pointer (some ⟨b18, 0, none⟩))), (6, (.pointer (some ⟨b11, 0, none⟩))), (5, (.bool false)), (4, (.slice none 0 0)), (3, (.pointer (some ⟨b1, 0, none⟩))), (0, (.pointer (some ⟨b, 0, none⟩)))]) (l' := [(pts b19 (.cells #[(.int .i64 0), (.int .i64 0), (.int .i64 0), (.int .u64 0), (.int .i64 0)] 56 (0, 0))), (pts b (.cells #[(.map (some mb)), (.int .u64 ((grantT tok (wtC c)) : Int))] 195 (0, 0))), (LockR (grantX tok (Lk.mk [] false []) (wtC c)) b18), (mp encS mb (l.map ptrE)), (all lockE l), (pts b11 (.cells #[(.int .i64 c.session), (.int .i64 c.seq), (.bool (c.kind == 7))] 197 (0, 0))), (pts b1 (.cells #[(.int .i64 c.kind), (.int .i64 c.session), (.int .i64 c.seq), (.string (ba c.name)), (.int .i64 c.n)] 24 (0, 0))), F]) rfl rfl ?_
            refine oj_e0 (oe_storen (i := 0) rfl rfl rfl T_a56 rfl rfl (by simp [Value.oneCell'])) rfl rfl (fun _ => ?_)
            refine oj_eq (e' := [(8, (.pointer (some ⟨b19, 0, none⟩))), (57, (.agg #[(.int .i64 ((grantR tok (wtC c)).session)), (.int .i64 ((grantR tok (wtC c)).seq)), (.int .i64 ((grantR tok (wtC c)).err)), (.int .u64 ((grantR tok (wtC c)).token : Int)), (.int .i64 ((grantR tok (wtC c)).n))])), (56, (.agg #[(.int .i64 c.session), (.int .i64 c.seq), (.bool (c.kind == 7))])), (55, (.pointer (some ⟨b18, 0, none⟩))), (54, (.pointer (some ⟨b, 0, none⟩))), (7, (.pointer (some ⟨b18, 0, none⟩))), (6, (.pointer (some ⟨b11, 0, none⟩))), (5, (.bool false)), (4, (.slice none 0 0)), (3, (.pointer (some ⟨b1, 0, none⟩))), (0, (.pointer (some ⟨b, 0, none⟩)))]) (l' := [(pts b19 (.cells #[(.int .i64 ((grantR tok (wtC c)).session)), (.int .i64 ((grantR tok (wtC c)).seq)), (.int .i64 ((grantR tok (wtC c)).err)), (.int .u64 ((grantR tok (wtC c)).token : Int)), (.int .i64 ((grantR tok (wtC c)).n))] 56 (0, 0))), (pts b (.cells #[(.map (some mb)), (.int .u64 ((grantT tok (wtC c)) : Int))] 195 (0, 0))), (LockR (grantX tok (Lk.mk [] false []) (wtC c)) b18), (mp encS mb (l.map ptrE)), (all lockE l), (pts b11 (.cells #[(.int .i64 c.session), (.int .i64 c.seq), (.bool (c.kind == 7))] 197 (0, 0))), (pts b1 (.cells #[(.int .i64 c.kind), (.int .i64 c.session), (.int .i64 c.seq), (.string (ba c.name)), (.int .i64 c.n)] 24 (0, 0))), F]) rfl rfl ?_
            refine oj_nil ?_
            refine xj_then ?_
            refine cj_weak (e' := [(8, (.pointer (some ⟨b19, 0, none⟩))), (7, (.pointer (some ⟨b18, 0, none⟩))), (6, (.pointer (some ⟨b11, 0, none⟩))), (5, (.bool false)), (4, (.slice none 0 0)), (3, (.pointer (some ⟨b1, 0, none⟩))), (0, (.pointer (some ⟨b, 0, none⟩)))]) (EnvLe.cons rfl (EnvLe.cons rfl (EnvLe.cons rfl (EnvLe.cons rfl (EnvLe.cons rfl (EnvLe.cons rfl (EnvLe.cons rfl (EnvLe.nil _)))))))) (fun _ h => h) ?_
            refine cj_seq ?_
            refine cj_seq ?_
            refine cj_region ?_
            refine oj_v (ov_fieldAddr rfl rfl T_f56_2) rfl rfl rfl ?_
            refine oj_v (ov_load1 (v := (.int .i64 ((grantR tok (wtC c)).err))) rfl rfl T_o53 (rd_pts (i := 0) rfl rfl)) rfl rfl rfl ?_
            refine oj_v (ov_eql rfl rfl rfl) rfl rfl rfl ?_
            refine oj_nil ?_
            refine xj_then ?_
            refine cj_cond (b := ((grantR tok (wtC c)).err) == 0) rfl (fun h20 => ?_) (fun h20 => ?_)
            · have c21 : (grantR tok (wtC c)).err = 0 := by simpa using h20
              refine cj_sched [(pts b (.cells #[(.map (some mb)), (.int .u64 ((grantT tok (wtC c)) : Int))] 195 (0, 0))), (pts b1 (.cells #[(.int .i64 c.kind), (.int .i64 c.session), (.int .i64 c.seq), (.string (ba c.name)), (.int .i64 c.n)] 24 (0, 0)))] [] [(0, true), (1, true), (2, true), (3, true), (4, true), (5, true), (6, false), (7, false)] T_mixed (by decide +kernel) rfl ?_
              refine dj_eq (e' := [(60, (.bool (((grantR tok (wtC c)).err) == 0))), (59, (.int .i64 ((grantR tok (wtC c)).err))), (58, (.pointer (some ⟨b19, 2, none⟩))), (8, (.pointer (some ⟨b19, 0, none⟩))), (7, (.pointer (some ⟨b18, 0, none⟩))), (6, (.pointer (some ⟨b11, 0, none⟩))), (5, (.bool false)), (4, (.slice none 0 0)), (3, (.pointer (some ⟨b1, 0, none⟩))), (0, (.pointer (some ⟨b, 0, none⟩)))]) (l' := [(pts b19 (.cells #[(.int .i64 ((grantR tok (wtC c)).session)), (.int .i64 ((grantR tok (wtC c)).seq)), (.int .i64 ((grantR tok (wtC c)).err)), (.int .u64 ((grantR tok (wtC c)).token : Int)), (.int .i64 ((grantR tok (wtC c)).n))] 56 (0, 0))), (pts b (.cells #[(.map (some mb)), (.int .u64 ((grantT tok (wtC c)) : Int))] 195 (0, 0))), (LockR (grantX tok (Lk.mk [] false []) (wtC c)) b18), (mp encS mb (l.map ptrE)), (all lockE l), (pts b11 (.cells #[(.int .i64 c.session), (.int .i64 c.seq), (.bool (c.kind == 7))] 197 (0, 0))), (pts b1 (.cells #[(.int .i64 c.kind), (.int .i64 c.session), (.int .i64 c.seq), (.string (ba c.name)), (.int .i64 c.n)] 24 (0, 0))), F]) rfl rfl ?_
              refine dj_v (np_then (np_block (np_then np_body))) (ov_move rfl rfl) rfl rfl rfl (sat_sub [1, 6] [0, 2, 3, 4, 5, 7] (by decide +kernel) rfl rfl) ?_
              refine dj_v (np_then (np_block (np_then np_body))) (ov_nilCheck rfl rfl) rfl rfl rfl (sat_sub [1, 6] [0, 2, 3, 4, 5, 7] (by decide +kernel) rfl rfl) ?_
              refine dj_v (np_then (np_block (np_then np_body))) (ov_fieldAddr rfl rfl T_f195_0) rfl rfl rfl (sat_sub [1, 6] [0, 2, 3, 4, 5, 7] (by decide +kernel) rfl rfl) ?_
              refine dj_v (np_then (np_block (np_then np_body))) (ov_load1 (v := (.map (some mb))) rfl rfl T_o193 (rd_pts (i := 0) rfl rfl)) rfl rfl rfl (sat_sub [1, 6] [0, 2, 3, 4, 5, 7] (by decide +kernel) rfl rfl) ?_
              refine dj_v (np_then (np_block (np_then np_body))) (ov_fieldAddr rfl rfl T_f24_3) rfl rfl rfl (sat_sub [1, 6] [0, 2, 3, 4, 5, 7] (by decide +kernel) rfl rfl) ?_
              refine dj_v (np_then (np_block (np_then np_body))) (ov_load1 (v := (.string (ba c.name))) rfl rfl T_o9 (rd_pts (i := 1) rfl rfl)) rfl rfl rfl (sat_sub [1, 6] [0, 2, 3, 4, 5, 7] (by decide +kernel) rfl rfl) ?_
              refine dj_e (oe_of_v (ov_move rfl rfl)) rfl rfl rfl (.inr (fun _ => sat_sub [1, 6] [0, 2, 3, 4, 5, 7] (by decide +kernel) rfl rfl)) (fun _ => ?_)
              refine dj_e0 (oe_mapUpdate (i := 3) (k := c.name) (κ := encS) rfl rfl rfl rfl Try.underlying193 Try.underlying9 rfl) rfl rfl (.inr (fun _ => sat_sub [1, 6] [0, 2, 3, 4, 5, 7] (by decide +kernel) rfl rfl)) (fun _ => ?_)
              refine dj_eq (e' := [(67, (.pointer (some ⟨b18, 0, none⟩))), (66, (.string (ba c.name))), (65, (.pointer (some ⟨b1, 3, none⟩))), (64, (.map (some mb))), (63, (.pointer (some ⟨b, 0, none⟩))), (62, (.pointer (some ⟨b, 0, none⟩))), (61, (.pointer (some ⟨b, 0, none⟩))), (60, (.bool (((grantR tok (wtC c)).err) == 0))), (59, (.int .i64 ((grantR tok (wtC c)).err))), (58, (.pointer (some ⟨b19, 2, none⟩))), (8, (.pointer (some ⟨b19, 0, none⟩))), (7, (.pointer (some ⟨b18, 0, none⟩))), (6, (.pointer (some ⟨b11, 0, none⟩))), (5, (.bool false)), (4, (.slice none 0 0)), (3, (.pointer (some ⟨b1, 0, none⟩))), (0, (.pointer (some ⟨b, 0, none⟩)))]) (l' := [(pts b19 (.cells #[(.int .i64 ((grantR tok (wtC c)).session)), (.int .i64 ((grantR tok (wtC c)).seq)), (.int .i64 ((grantR tok (wtC c)).err)), (.int .u64 ((grantR tok (wtC c)).token : Int)), (.int .i64 ((grantR tok (wtC c)).n))] 56 (0, 0))), (pts b (.cells #[(.map (some mb)), (.int .u64 ((grantT tok (wtC c)) : Int))] 195 (0, 0))), (LockR (grantX tok (Lk.mk [] false []) (wtC c)) b18), (mp encS mb ((c.name, (.pointer (some ⟨b18, 0, none⟩))) :: adel c.name (l.map ptrE))), (all lockE l), (pts b11 (.cells #[(.int .i64 c.session), (.int .i64 c.seq), (.bool (c.kind == 7))] 197 (0, 0))), (pts b1 (.cells #[(.int .i64 c.kind), (.int .i64 c.session), (.int .i64 c.seq), (.string (ba c.name)), (.int .i64 c.n)] 24 (0, 0))), F]) rfl rfl ?_
              refine dj_nil ?_
              refine xj_then ?_
              refine cj_weak (e' := [(8, (.pointer (some ⟨b19, 0, none⟩))), (7, (.pointer (some ⟨b18, 0, none⟩))), (6, (.pointer (some ⟨b11, 0, none⟩))), (5, (.bool false)), (4, (.slice none 0 0))]) (EnvLe.cons rfl (EnvLe.cons rfl (EnvLe.cons rfl (EnvLe.cons rfl (EnvLe.cons rfl (EnvLe.nil _)))))) (fun _ h => h) ?_
              refine cj_seq ?_
              refine cj_region ?_
              refine oj_v (ov_loadn (cs := [(.int .i64 ((grantR tok (wtC c)).session)), (.int .i64 ((grantR tok (wtC c)).seq)), (.int .i64 ((grantR tok (wtC c)).err)), (.int .u64 ((grantR tok (wtC c)).token : Int)), (.int .i64 ((grantR tok (wtC c)).n))]) rfl rfl T_a56 (rds_pts (i := 0) rfl rfl)) rfl rfl rfl ?_
              refine oj_e (oe_buildSlice (cells := #[(.int .i64 ((grantR tok (wtC c)).session)), (.int .i64 ((grantR tok (wtC c)).seq)), (.int .i64 ((grantR tok (wtC c)).err)), (.int .u64 ((grantR tok (wtC c)).token : Int)), (.int .i64 ((grantR tok (wtC c)).n))]) rfl T_e85 T_z56 rfl rfl rfl rfl) rfl rfl rfl (fun b22 => ?_)
              refine oj_eq (e' := [(69, (.slice (some ⟨b22, 0, none⟩) 1 1)), (68, (.agg #[(.int .i64 ((grantR tok (wtC c)).session)), (.int .i64 ((grantR tok (wtC c)).seq)), (.int .i64 ((grantR tok (wtC c)).err)), (.int .u64 ((grantR tok (wtC c)).token : Int)), (.int .i64 ((grantR tok (wtC c)).n))])), (8, (.pointer (some ⟨b19, 0, none⟩))), (7, (.pointer (some ⟨b18, 0, none⟩))), (6, (.pointer (some ⟨b11, 0, none⟩))), (5, (.bool false)), (4, (.slice none 0 0))]) (l' := [(pts b22 (.cells #[(.int .i64 ((grantR tok (wtC c)).session)), (.int .i64 ((grantR tok (wtC c)).seq)), (.int .i64 ((grantR tok (wtC c)).err)), (.int .u64 ((grantR tok (wtC c)).token : Int)), (.int .i64 ((grantR tok (wtC c)).n))] 56 (0, 0))), (pts b19 (.cells #[(.int .i64 ((grantR tok (wtC c)).session)), (.int .i64 ((grantR tok (wtC c)).seq)), (.int .i64 ((grantR tok (wtC c)).err)), (.int .u64 ((grantR tok (wtC c)).token : Int)), (.int .i64 ((grantR tok (wtC c)).n))] 56 (0, 0))), (pts b (.cells #[(.map (some mb)), (.int .u64 ((grantT tok (wtC c)) : Int))] 195 (0, 0))), (LockR (grantX tok (Lk.mk [] false []) (wtC c)) b18), (mp encS mb ((c.name, (.pointer (some ⟨b18, 0, none⟩))) :: adel c.name (l.map ptrE))), (all lockE l), (pts b11 (.cells #[(.int .i64 c.session), (.int .i64 c.seq), (.bool (c.kind == 7))] 197 (0, 0))), (pts b1 (.cells #[(.int .i64 c.kind), (.int .i64 c.session), (.int .i64 c.seq), (.string (ba c.name)), (.int .i64 c.n)] 24 (0, 0))), F]) rfl rfl ?_
              refine oj_v (ov_assign rfl rfl) rfl rfl rfl ?_
              refine oj_v (ov_assign rfl rfl) rfl rfl rfl ?_
              refine oj_nil ?_
              refine xj_then ?_
              refine cj_weak (e' := [(5, (.bool false)), (4, (.slice (some ⟨b22, 0, none⟩) 1 1)), (7, (.pointer (some ⟨b18, 0, none⟩))), (6, (.pointer (some ⟨b11, 0, none⟩)))]) (EnvLe.cons rfl (EnvLe.cons rfl (EnvLe.cons rfl (EnvLe.cons rfl (EnvLe.nil _))))) (fun _ h => h) ?_
              refine cj_ret ?_
              refine xj_block_ret ?_
              refine xj_then_other (by simp) ?_
              rw [ask_new (kind_of h5) hget (by omega) (by simpa using h20)]
              refine xj_ret (vs := [(.slice (some ⟨b22, 0, none⟩) 1 1), (.bool false)]) (some ⟨b22, 0, none⟩, 1) rfl rfl ?_
              exact fun h hs => (fun h hs => Sat.head_mono (sl_of_pts (m := 1) (k := 5) rfl (by decide)) (Sat.tail_mono (locks_new f13 hrl hnl) hs)) h (sat_sub (l' := [(pts b22 (.cells #[(.int .i64 ((grantR tok (wtC c)).session)), (.int .i64 ((grantR tok (wtC c)).seq)), (.int .i64 ((grantR tok (wtC c)).err)), (.int .u64 ((grantR tok (wtC c)).token : Int)), (.int .i64 ((grantR tok (wtC c)).n))] 56 (0, 0))), (pts b (.cells #[(.map (some mb)), (.int .u64 ((grantT tok (wtC c)) : Int))] 195 (0, 0))), (mp encS mb ((c.name, (.pointer (some ⟨b18, 0, none⟩))) :: adel c.name (l.map ptrE))), (LockR (grantX tok (Lk.mk [] false []) (wtC c)) b18), (all lockE l), F]) [0, 2, 4, 3, 5, 8] [1, 6, 7] (by decide +kernel) rfl rfl h hs)
            · have c23 : (grantR tok (wtC c)).err ≠ 0 := by simpa using h20
              refine cj_skip ?_
              refine xj_then ?_
              refine cj_weak (e' := [(8, (.pointer (some ⟨b19, 0, none⟩))), (7, (.pointer (some ⟨b18, 0, none⟩))), (6, (.pointer (some ⟨b11, 0, none⟩))), (5, (.bool false)), (4, (.slice none 0 0))]) (EnvLe.cons rfl (EnvLe.cons rfl (EnvLe.cons rfl (EnvLe.cons rfl (EnvLe.cons rfl (EnvLe.nil _)))))) (fun _ h => h) ?_
              refine cj_seq ?_
              refine cj_region ?_
              refine oj_v (ov_loadn (cs := [(.int .i64 ((grantR tok (wtC c)).session)), (.int .i64 ((grantR tok (wtC c)).seq)), (.int .i64 ((grantR tok (wtC c)).err)), (.int .u64 ((grantR tok (wtC c)).token : Int)), (.int .i64 ((grantR tok (wtC c)).n))]) rfl rfl T_a56 (rds_pts (i := 0) rfl rfl)) rfl rfl rfl ?_
              refine oj_e (oe_buildSlice (cells := #[(.int .i64 ((grantR tok (wtC c)).session)), (.int .i64 ((grantR tok (wtC c)).seq)), (.int .i64 ((grantR tok (wtC c)).err)), (.int .u64 ((grantR tok (wtC c)).token : Int)), (.int .i64 ((grantR tok (wtC c)).n))]) rfl T_e85 T_z56 rfl rfl rfl rfl) rfl rfl rfl (fun b24 => ?_)
              refine oj_eq (e' := [(69, (.slice (some ⟨b24, 0, none⟩) 1 1)), (68, (.agg #[(.int .i64 ((grantR tok (wtC c)).session)), (.int .i64 ((grantR tok (wtC c)).seq)), (.int .i64 ((grantR tok (wtC c)).err)), (.int .u64 ((grantR tok (wtC c)).token : Int)), (.int .i64 ((grantR tok (wtC c)).n))])), (8, (.pointer (some ⟨b19, 0, none⟩))), (7, (.pointer (some ⟨b18, 0, none⟩))), (6, (.pointer (some ⟨b11, 0, none⟩))), (5, (.bool false)), (4, (.slice none 0 0))]) (l' := [(pts b24 (.cells #[(.int .i64 ((grantR tok (wtC c)).session)), (.int .i64 ((grantR tok (wtC c)).seq)), (.int .i64 ((grantR tok (wtC c)).err)), (.int .u64 ((grantR tok (wtC c)).token : Int)), (.int .i64 ((grantR tok (wtC c)).n))] 56 (0, 0))), (pts b19 (.cells #[(.int .i64 ((grantR tok (wtC c)).session)), (.int .i64 ((grantR tok (wtC c)).seq)), (.int .i64 ((grantR tok (wtC c)).err)), (.int .u64 ((grantR tok (wtC c)).token : Int)), (.int .i64 ((grantR tok (wtC c)).n))] 56 (0, 0))), (pts b (.cells #[(.map (some mb)), (.int .u64 ((grantT tok (wtC c)) : Int))] 195 (0, 0))), (LockR (grantX tok (Lk.mk [] false []) (wtC c)) b18), (mp encS mb (l.map ptrE)), (all lockE l), (pts b11 (.cells #[(.int .i64 c.session), (.int .i64 c.seq), (.bool (c.kind == 7))] 197 (0, 0))), (pts b1 (.cells #[(.int .i64 c.kind), (.int .i64 c.session), (.int .i64 c.seq), (.string (ba c.name)), (.int .i64 c.n)] 24 (0, 0))), F]) rfl rfl ?_
              refine oj_v (ov_assign rfl rfl) rfl rfl rfl ?_
              refine oj_v (ov_assign rfl rfl) rfl rfl rfl ?_
              refine oj_nil ?_
              refine xj_then ?_
              refine cj_weak (e' := [(5, (.bool false)), (4, (.slice (some ⟨b24, 0, none⟩) 1 1)), (7, (.pointer (some ⟨b18, 0, none⟩))), (6, (.pointer (some ⟨b11, 0, none⟩)))]) (EnvLe.cons rfl (EnvLe.cons rfl (EnvLe.cons rfl (EnvLe.cons rfl (EnvLe.nil _))))) (fun _ h => h) ?_
              refine cj_ret ?_
              refine xj_block_ret ?_
              refine xj_then_other (by simp) ?_
              rw [ask_new' (kind_of h5) hget (by omega) (by simpa using h20)]
              refine xj_ret (vs := [(.slice (some ⟨b24, 0, none⟩) 1 1), (.bool false)]) (some ⟨b24, 0, none⟩, 1) rfl rfl ?_
              exact fun h hs => (fun h hs => Sat.head_mono (sl_of_pts (m := 1) (k := 5) rfl (by decide)) (Sat.tail_mono (locks_close f13) hs)) h (sat_sub (l' := [(pts b24 (.cells #[(.int .i64 ((grantR tok (wtC c)).session)), (.int .i64 ((grantR tok (wtC c)).seq)), (.int .i64 ((grantR tok (wtC c)).err)), (.int .u64 ((grantR tok (wtC c)).token : Int)), (.int .i64 ((grantR tok (wtC c)).n))] 56 (0, 0))), (pts b (.cells #[(.map (some mb)), (.int .u64 ((grantT tok (wtC c)) : Int))] 195 (0, 0))), (mp encS mb (l.map ptrE)), (all lockE l), F]) [0, 2, 4, 5, 8] [1, 3, 6, 7] (by decide +kernel) rfl rfl h hs)
      · obtain ⟨p, hpl, hpk⟩ := find_yes f13 hget
        have hxo : okX n x0 := hm.get hget
        have hxl := hxo.2
        refine cj_sat (l' := [(LockR x0 p), (all lockE (adel c.name l)), (pts b (.cells #[(.map (some mb)), (.int .u64 (tok : Int))] 195 (0, 0))), (mp encS mb (l.map ptrE)), (pts b11 (.cells #[(.int .i64 c.session), (.int .i64 c.seq), (.bool (c.kind == 7))] 197 (0, 0))), (pts b1 (.cells #[(.int .i64 c.kind), (.int .i64 c.session), (.int .i64 c.seq), (.string (ba c.name)), (.int .i64 c.n)] 24 (0, 0))), F]) (fun h hs => (locks_take hrl hpl) h (sat_js (l' := [(all lockE l), (pts b (.cells #[(.map (some mb)), (.int .u64 (tok : Int))] 195 (0, 0))), (mp encS mb (l.map ptrE)), (pts b11 (.cells #[(.int .i64 c.session), (.int .i64 c.seq), (.bool (c.kind == 7))] 197 (0, 0))), (pts b1 (.cells #[(.int .i64 c.kind), (.int .i64 c.session), (.int .i64 c.seq), (.string (ba c.name)), (.int .i64 c.n)] 24 (0, 0))), F]) [2, 0, 1, 3, 4, 5] (by decide +kernel) rfl rfl h hs)) ?_
        refine cj_sched [(pts b (.cells #[(.map (some mb)), (.int .u64 (tok : Int))] 195 (0, 0))), (mp encS mb (l.map ptrE)), (pts b1 (.cells #[(.int .i64 c.kind), (.int .i64 c.session), (.int .i64 c.seq), (.string (ba c.name)), (.int .i64 c.n)] 24 (0, 0)))] [] [(0, true), (1, true), (2, true), (3, true), (4, false), (5, false), (6, false), (7, false)] T_mixed (by decide +kernel) rfl ?_
        refine dj_eq (e' := [(6, (.pointer (some ⟨b11, 0, none⟩))), (5, (.bool false)), (4, (.slice none 0 0)), (3, (.pointer (some ⟨b1, 0, none⟩))), (0, (.pointer (some ⟨b, 0, none⟩)))]) (l' := [(LockR x0 p), (all lockE (adel c.name l)), (pts b (.cells #[(.map (some mb)), (.int .u64 (tok : Int))] 195 (0, 0))), (mp encS mb (l.map ptrE)), (pts b11 (.cells #[(.int .i64 c.session), (.int .i64 c.seq), (.bool (c.kind == 7))] 197 (0, 0))), (pts b1 (.cells #[(.int .i64 c.kind), (.int .i64 c.session), (.int .i64 c.seq), (.string (ba c.name)), (.int .i64 c.n)] 24 (0, 0))), F]) rfl rfl ?_
        refine dj_v (np_then np_body) (ov_move rfl rfl) rfl rfl rfl (sat_sub [2, 3, 5] [0, 1, 4, 6] (by decide +kernel) rfl rfl) ?_
        refine dj_v (np_then np_body) (ov_nilCheck rfl rfl) rfl rfl rfl (sat_sub [2, 3, 5] [0, 1, 4, 6] (by decide +kernel) rfl rfl) ?_
        refine dj_v (np_then np_body) (ov_fieldAddr rfl rfl T_f195_0) rfl rfl rfl (sat_sub [2, 3, 5] [0, 1, 4, 6] (by decide +kernel) rfl rfl) ?_
        refine dj_v (np_then np_body) (ov_load1 (v := (.map (some mb))) rfl rfl T_o193 (rd_pts (i := 0) rfl rfl)) rfl rfl rfl (sat_sub [2, 3, 5] [0, 1, 4, 6] (by decide +kernel) rfl rfl) ?_
        refine dj_e (oe_of_v (ov_fieldAddr rfl rfl T_f24_3)) rfl rfl rfl (.inr (fun _ => sat_sub [2, 3, 5] [0, 1, 4, 6] (by decide +kernel) rfl rfl)) (fun _ => ?_)
        refine dj_e (oe_of_v (ov_load1 (v := (.string (ba c.name))) rfl rfl T_o9 (rd_pts (i := 5) rfl rfl))) rfl rfl rfl (.inr (fun _ => sat_sub [2, 3, 5] [0, 1, 4, 6] (by decide +kernel) rfl rfl)) (fun _ => ?_)
        refine dj_e (oe_of_v (ov_lookup (i := 3) (k := c.name) (κ := encS) rfl rfl rfl Try.underlying193 Try.underlying9 T_z198 rfl)) rfl rfl rfl (.inr (fun _ => sat_sub [2, 3, 5] [0, 1, 4, 6] (by decide +kernel) rfl rfl)) (fun _ => ?_)
        refine dj_head (v' := (.pointer (some ⟨p, 0, none⟩))) (by rw [hpk]; rfl) ?_
        refine dj_e (oe_of_v (ov_assign rfl rfl)) rfl rfl rfl (.inr (fun _ => sat_sub [2, 3, 5] [0, 1, 4, 6] (by decide +kernel) rfl rfl)) (fun _ => ?_)
        refine dj_nil ?_
        refine xj_then ?_
        refine cj_weak (e' := [(7, (.pointer (some ⟨p, 0, none⟩))), (6, (.pointer (some ⟨b11, 0, none⟩))), (5, (.bool false)), (4, (.slice none 0 0)), (3, (.pointer (some ⟨b1, 0, none⟩))), (0, (.pointer (some ⟨b, 0, none⟩)))]) (EnvLe.cons rfl (EnvLe.cons rfl (EnvLe.cons rfl (EnvLe.cons rfl (EnvLe.cons rfl (EnvLe.cons rfl (EnvLe.nil _))))))) (fun _ h => h) ?_
        refine cj_seq ?_
        refine cj_block ?_
        refine cj_seq ?_
        refine cj_pass (e' := [(36, (.bool false)), (7, (.pointer (some ⟨p, 0, none⟩))), (6, (.pointer (some ⟨b11, 0, none⟩))), (5, (.bool false)), (4, (.slice none 0 0)), (3, (.pointer (some ⟨b1, 0, none⟩))), (0, (.pointer (some ⟨b, 0, none⟩)))]) (l' := [(LockR x0 p), (all lockE (adel c.name l)), (pts b (.cells #[(.map (some mb)), (.int .u64 (tok : Int))] 195 (0, 0))), (mp encS mb (l.map ptrE)), (pts b11 (.cells #[(.int .i64 c.session), (.int .i64 c.seq), (.bool (c.kind == 7))] 197 (0, 0))), (pts b1 (.cells #[(.int .i64 c.kind), (.int .i64 c.session), (.int .i64 c.seq), (.string (ba c.name)), (.int .i64 c.n)] 24 (0, 0))), F]) ?_ ?_
        · refine cj_region ?_
          refine og_v (ov_move rfl rfl) rfl rfl rfl ?_
          refine og_v (ov_peql rfl rfl rfl Try.underlying198) rfl rfl rfl ?_
          refine og_v (ov_move rfl rfl) rfl rfl rfl ?_
          refine og_skip rfl rfl rfl ?_
          refine og_skip rfl rfl rfl ?_
          refine og_skip rfl rfl rfl ?_
          refine og_skip rfl rfl rfl ?_
          refine og_skip rfl rfl rfl ?_
          refine og_skip rfl rfl rfl ?_
          refine og_v (ov_pick rfl rfl rfl rfl) rfl rfl rfl ?_
          refine og_v (ov_assign rfl rfl) rfl rfl rfl ?_
          refine oj_nil ?_
          exact xj_pass (EnvLe.cons rfl (EnvLe.cons rfl (EnvLe.cons rfl (EnvLe.cons rfl (EnvLe.cons rfl (EnvLe.cons rfl (EnvLe.cons rfl (EnvLe.nil _)))))))) (fun _ h => h)
        · refine xj_then ?_
          refine cj_false rfl ?_
          refine cj_seq ?_
          refine cj_region ?_
          refine oj_v (ov_move rfl rfl) rfl rfl rfl ?_
          refine oj_v (ov_peql rfl rfl rfl Try.underlying198) rfl rfl rfl ?_
          refine oj_v (ov_assign rfl rfl) rfl rfl rfl ?_
          refine oj_nil ?_
          refine xj_then ?_
          refine cj_weak (e' := [(49, (.bool false)), (7, (.pointer (some ⟨p, 0, none⟩))), (6, (.pointer (some ⟨b11, 0, none⟩))), (5, (.bool false)), (4, (.slice none 0 0)), (3, (.pointer (some ⟨b1, 0, none⟩))), (0, (.pointer (some ⟨b, 0, none⟩)))]) (EnvLe.cons rfl (EnvLe.cons rfl (EnvLe.cons rfl (EnvLe.cons rfl (EnvLe.cons rfl (EnvLe.cons rfl (EnvLe.cons rfl (EnvLe.nil _)))))))) (fun _ h => h) ?_
          refine cj_false rfl ?_
          refine cj_seq ?_
          refine cj_region ?_
          refine oj_v (ov_move rfl rfl) rfl rfl rfl ?_
          refine oj_v (ov_fieldAddr rfl rfl T_f24_1) rfl rfl rfl ?_
          refine oj_v (ov_load1 (v := (.int .i64 c.session)) rfl rfl T_o3 (rd_pts (i := 5) rfl rfl)) rfl rfl rfl ?_
          refine oj_e (oe_call rfl rfl rfl Try.func123 rfl rfl (rest := [(all lockE (adel c.name l)), (pts b (.cells #[(.map (some mb)), (.int .u64 (tok : Int))] 195 (0, 0))), (mp encS mb (l.map ptrE)), (pts b11 (.cells #[(.int .i64 c.session), (.int .i64 c.seq), (.bool (c.kind == 7))] 197 (0, 0))), (pts b1 (.cells #[(.int .i64 c.kind), (.int .i64 c.session), (.int .i64 c.seq), (.string (ba c.name)), (.int .i64 c.n)] 24 (0, 0))), F]) (lk_asks p c.session x0 (by omega)) (js := [0, 1, 2, 3, 4, 5, 6]) ⟨by decide +kernel, rfl, rfl⟩) rfl rfl rfl (fun _ => ?_)
          refine oj_eq (e' := [(74, (.bool (asksX x0 c.session))), (73, (.int .i64 c.session)), (72, (.pointer (some ⟨b1, 1, none⟩))), (71, (.pointer (some ⟨p, 0, none⟩))), (49, (.bool false)), (7, (.pointer (some ⟨p, 0, none⟩))), (6, (.pointer (some ⟨b11, 0, none⟩))), (5, (.bool false)), (4, (.slice none 0 0)), (3, (.pointer (some ⟨b1, 0, none⟩))), (0, (.pointer (some ⟨b, 0, none⟩)))]) (l' := [(LockR x0 p), (all lockE (adel c.name l)), (pts b (.cells #[(.map (some mb)), (.int .u64 (tok : Int))] 195 (0, 0))), (mp encS mb (l.map ptrE)), (pts b11 (.cells #[(.int .i64 c.session), (.int .i64 c.seq), (.bool (c.kind == 7))] 197 (0, 0))), (pts b1 (.cells #[(.int .i64 c.kind), (.int .i64 c.session), (.int .i64 c.seq), (.string (ba c.name)), (.int .i64 c.n)] 24 (0, 0))), F]) rfl rfl ?_
          refine oj_v (ov_assign rfl rfl) rfl rfl rfl ?_
          refine oj_nil ?_
          refine xj_then ?_
          refine cj_weak (e' := [(70, (.bool (asksX x0 c.session))), (7, (.pointer (some ⟨p, 0, none⟩))), (6, (.pointer (some ⟨b11, 0, none⟩))), (5, (.bool false)), (4, (.slice none 0 0)), (3, (.pointer (some ⟨b1, 0, none⟩))), (0, (.pointer (some ⟨b, 0, none⟩)))]) (EnvLe.cons rfl (EnvLe.cons rfl (EnvLe.cons rfl (EnvLe.cons rfl (EnvLe.cons rfl (EnvLe.cons rfl (EnvLe.cons rfl (EnvLe.nil _)))))))) (fun _ h => h) ?_
          refine cj_cond (b := asksX x0 c.session) rfl (fun h25 => ?_) (fun h25 => ?_)
          · have c26 := h25
            refine cj_seq ?_
            refine cj_region ?_
            refine oj_v (ov_loadn (cs := [(.int .i64 c.kind), (.int .i64 c.session), (.int .i64 c.seq), (.string (ba c.name)), (.int .i64 c.n)]) rfl rfl T_a24 (rds_pts (i := 5) rfl rfl)) rfl rfl rfl ?_
            refine oj_e (oe_call rfl rfl rfl Try.func121 rfl rfl (rest := [(LockR x0 p), (all lockE (adel c.name l)), (pts b (.cells #[(.map (some mb)), (.int .u64 (tok : Int))] 195 (0, 0))), (mp encS mb (l.map ptrE)), (pts b11 (.cells #[(.int .i64 c.session), (.int .i64 c.seq), (.bool (c.kind == 7))] 197 (0, 0))), (pts b1 (.cells #[(.int .i64 c.kind), (.int .i64 c.session), (.int .i64 c.seq), (.string (ba c.name)), (.int .i64 c.n)] 24 (0, 0))), F]) (lk_one c 12) (js := [0, 1, 2, 3, 4, 5, 6]) ⟨by decide +kernel, rfl, rfl⟩) rfl rfl rfl (fun q27 => ?_)
            refine oj_eq (e' := [(76, (.slice q27.1 1 q27.2)), (75, (.agg #[(.int .i64 c.kind), (.int .i64 c.session), (.int .i64 c.seq), (.string (ba c.name)), (.int .i64 c.n)])), (70, (.bool (asksX x0 c.session))), (7, (.pointer (some ⟨p, 0, none⟩))), (6, (.pointer (some ⟨b11, 0, none⟩))), (5, (.bool false)), (4, (.slice none 0 0)), (3, (.pointer (some ⟨b1, 0, none⟩))), (0, (.pointer (some ⟨b, 0, none⟩)))]) (l' := [(sl 56 5 q27.1 1 q27.2 ((oneR c 12).flatMap encR)), (LockR x0 p), (all lockE (adel c.name l)), (pts b (.cells #[(.map (some mb)), (.int .u64 (tok : Int))] 195 (0, 0))), (mp encS mb (l.map ptrE)), (pts b11 (.cells #[(.int .i64 c.session), (.int .i64 c.seq), (.bool (c.kind == 7))] 197 (0, 0))), (pts b1 (.cells #[(.int .i64 c.kind), (.int .i64 c.session), (.int .i64 c.seq), (.string (ba c.name)), (.int .i64 c.n)] 24 (0, 0))), F]) rfl rfl ?_
            obtain ⟨qa, qc⟩ := q27
            refine oj_eq (e' := [(76, (.slice qa 1 qc)), (75, (.agg #[(.int .i64 c.kind), (.int .i64 c.session), (.int .i64 c.seq), (.string (ba c.name)), (.int .i64 c.n)])), (70, (.bool (asksX x0 c.session))), (7, (.pointer (some ⟨p, 0, none⟩))), (6, (.pointer (some ⟨b11, 0, none⟩))), (5, (.bool false)), (4, (.slice none 0 0)), (3, (.pointer (some ⟨b1, 0, none⟩))), (0, (.pointer (some ⟨b, 0, none⟩)))]) (l' := [(sl 56 5 qa 1 qc ((oneR c 12).flatMap encR)), (LockR x0 p), (all lockE (adel c.name l)), (pts b (.cells #[(.map (some mb)), (.int .u64 (tok : Int))] 195 (0, 0))), (mp encS mb (l.map ptrE)), (pts b11 (.cells #[(.int .i64 c.session), (.int .i64 c.seq), (.bool (c.kind == 7))] 197 (0, 0))), (pts b1 (.cells #[(.int .i64 c.kind), (.int .i64 c.session), (.int .i64 c.seq), (.string (ba c.name)), (.int .i64 c.n)] 24 (0, 0))), F]) rfl rfl ?_
            refine oj_v (ov_assign rfl rfl) rfl rfl rfl ?_
            refine oj_v (ov_assign rfl rfl) rfl rfl rfl ?_
            refine oj_nil ?_
            refine xj_then ?_
            refine cj_weak (e' := [(5, (.bool false)), (4, (.slice qa 1 qc)), (7, (.pointer (some ⟨p, 0, none⟩))), (6, (.pointer (some ⟨b11, 0, none⟩)))]) (EnvLe.cons rfl (EnvLe.cons rfl (EnvLe.cons rfl (EnvLe.cons rfl (EnvLe.nil _))))) (fun _ h => h) ?_
            refine cj_ret ?_
            refine xj_block_ret ?_
            refine xj_then_other (by simp) ?_
            rw [ask_held (kind_of h5) hget h25]
            refine xj_ret (vs := [(.slice qa 1 qc), (.bool false)]) (qa, qc) rfl rfl ?_
            exact fun h hs => (fun h hs => Sat.tail_mono (locks_back f13 hrl hpl) hs) h (sat_sub (l' := [(sl 56 5 qa 1 qc ((oneR c 12).flatMap encR)), (pts b (.cells #[(.map (some mb)), (.int .u64 (tok : Int))] 195 (0, 0))), (mp encS mb (l.map ptrE)), (LockR x0 p), (all lockE (adel c.name l)), F]) [0, 3, 4, 1, 2, 7] [5, 6] (by decide +kernel) rfl rfl h hs)
          · have c28 := h25
            refine cj_seq ?_
            refine cj_out (sat_open 0 rfl) (fun x29 => ?_)
            obtain ⟨ha, hc, wa, wc⟩ := x29
            refine cj_eq (e' := [(70, (.bool (asksX x0 c.session))), (7, (.pointer (some ⟨p, 0, none⟩))), (6, (.pointer (some ⟨b11, 0, none⟩))), (5, (.bool false)), (4, (.slice none 0 0)), (3, (.pointer (some ⟨b1, 0, none⟩))), (0, (.pointer (some ⟨b, 0, none⟩)))]) (l' := [(pts p (.cells #[(.slice ha x0.held.length hc), (.bool x0.writer), (.slice wa x0.queue.length wc)] 202 (0, 0))), (sl 3 1 ha x0.held.length hc (x0.held.flatMap ei)), (sl 197 3 wa x0.queue.length wc (x0.queue.flatMap encW)), (all lockE (adel c.name l)), (pts b (.cells #[(.map (some mb)), (.int .u64 (tok : Int))] 195 (0, 0))), (mp encS mb (l.map ptrE)), (pts b11 (.cells #[(.int .i64 c.session), (.int .i64 c.seq), (.bool (c.kind == 7))] 197 (0, 0))), (pts b1 (.cells #[(.int .i64 c.kind), (.int .i64 c.session), (.int .i64 c.seq), (.string (ba c.name)), (.int .i64 c.n)] 24 (0, 0))), F]) rfl rfl ?_
            refine cj_pass (e' := [(77, (.bool (((c.kind == 7) && (!x0.writer)) && ((x0.queue.length : Int) == 0)))), (7, (.pointer (some ⟨p, 0, none⟩))), (6, (.pointer (some ⟨b11, 0, none⟩))), (5, (.bool false)), (4, (.slice none 0 0)), (0, (.pointer (some ⟨b, 0, none⟩)))]) (l' := [(pts p (.cells #[(.slice ha x0.held.length hc), (.bool x0.writer), (.slice wa x0.queue.length wc)] 202 (0, 0))), (sl 3 1 ha x0.held.length hc (x0.held.flatMap ei)), (sl 197 3 wa x0.queue.length wc (x0.queue.flatMap encW)), (all lockE (adel c.name l)), (pts b (.cells #[(.map (some mb)), (.int .u64 (tok : Int))] 195 (0, 0))), (mp encS mb (l.map ptrE)), (pts b11 (.cells #[(.int .i64 c.session), (.int .i64 c.seq), (.bool (c.kind == 7))] 197 (0, 0))), (pts b1 (.cells #[(.int .i64 c.kind), (.int .i64 c.session), (.int .i64 c.seq), (.string (ba c.name)), (.int .i64 c.n)] 24 (0, 0))), F]) ?_ ?_
            · refine cj_region ?_
              refine og_v (ov_fieldAddr rfl rfl T_f197_2) rfl rfl rfl ?_
              refine og_v (ov_load1 (v := (.bool (c.kind == 7))) rfl rfl T_o4 (rd_pts (i := 6) rfl rfl)) rfl rfl rfl ?_
              refine og_v (ov_move rfl rfl) rfl rfl rfl ?_
              refine oj_case (fun h30 => ?_) (fun h30 => ?_)
              · have c31 : c.kind = 7 := by simpa using h30
                refine og_v (ov_move rfl rfl) rfl rfl rfl ?_
                refine og_v (ov_nilCheck rfl rfl) rfl rfl rfl ?_
                refine og_v (ov_fieldAddr rfl rfl T_f202_1) rfl rfl rfl ?_
                refine og_v (ov_load1 (v := (.bool x0.writer)) rfl rfl T_o4 (rd_pts (i := 0) rfl rfl)) rfl rfl rfl ?_
                refine og_v (ov_not rfl rfl) rfl rfl rfl ?_
                refine og_v (ov_pick rfl rfl rfl rfl) rfl rfl rfl ?_
                refine og_v (ov_move rfl rfl) rfl rfl rfl ?_
                refine oj_case (fun h32 => ?_) (fun h32 => ?_)
                · have h33 : x0.writer = false := by simpa using h32
                  have c34 := h33
                  refine og_v (ov_move rfl rfl) rfl rfl rfl ?_
                  refine og_v (ov_nilCheck rfl rfl) rfl rfl rfl ?_
                  refine og_v (ov_fieldAddr rfl rfl T_f202_2) rfl rfl rfl ?_
                  refine og_v (ov_load1 (v := (.slice wa x0.queue.length wc)) rfl rfl T_o200 (rd_pts (i := 0) rfl rfl)) rfl rfl rfl ?_
                  refine og_v (ov_lenL rfl rfl rfl Try.underlying200) rfl rfl rfl ?_
                  refine og_v (ov_eql rfl rfl rfl) rfl rfl rfl ?_
                  refine og_v (ov_pick rfl rfl rfl rfl) rfl rfl rfl ?_
                  refine og_v (ov_assign rfl rfl) rfl rfl rfl ?_
                  refine oj_nil ?_
                  exact xj_pass (EnvLe.cons (by first | (simp [look, h30, h32]; done) | (simp [look, h30, h32]; omega) | (simp [look, h30, h32]; intros; omega)) (EnvLe.cons rfl (EnvLe.cons rfl (EnvLe.cons rfl (EnvLe.cons rfl (EnvLe.cons rfl (EnvLe.nil _))))))) (fun _ h => h)
                · have h35 : x0.writer = true := by simpa using h32
                  have c36 := h35
                  refine og_skip rfl rfl rfl ?_
                  refine og_skip rfl rfl rfl ?_
                  refine og_skip rfl rfl rfl ?_
                  refine og_skip rfl rfl rfl ?_
                  refine og_skip rfl rfl rfl ?_
                  refine og_skip rfl rfl rfl ?_
                  refine og_v (ov_pick rfl rfl rfl rfl) rfl rfl rfl ?_
                  refine og_v (ov_assign rfl rfl) rfl rfl rfl ?_
                  refine oj_nil ?_
                  exact xj_pass (EnvLe.cons (by first | (simp [look, h30, h32]; done) | (simp [look, h30, h32]; omega) | (simp [look, h30, h32]; intros; omega)) (EnvLe.cons rfl (EnvLe.cons rfl (EnvLe.cons rfl (EnvLe.cons rfl (EnvLe.cons rfl (EnvLe.nil _))))))) (fun _ h => h)
              · have c37 : c.kind ≠ 7 := by simpa using h30
                refine og_skip rfl rfl rfl ?_
                refine og_skip rfl rfl rfl ?_
                refine og_skip rfl rfl rfl ?_
                refine og_skip rfl rfl rfl ?_
                refine og_skip rfl rfl rfl ?_
                refine og_v (ov_pick rfl rfl rfl rfl) rfl rfl rfl ?_
                refine og_v (ov_move rfl rfl) rfl rfl rfl ?_
                refine og_skip rfl rfl rfl ?_
                refine og_skip rfl rfl rfl ?_
                refine og_skip rfl rfl rfl ?_
                refine og_skip rfl rfl rfl ?_
                refine og_skip rfl rfl rfl ?_
                refine og_skip rfl rfl rfl ?_
                refine og_v (ov_pick rfl rfl rfl rfl) rfl rfl rfl ?_
                refine og_v (ov_assign rfl rfl) rfl rfl rfl ?_
                refine oj_nil ?_
                exact xj_pass (EnvLe.cons (by first | (simp [look, h30]; done) | (simp [look, h30]; omega) | (simp [look, h30]; intros; omega)) (EnvLe.cons rfl (EnvLe.cons rfl (EnvLe.cons rfl (EnvLe.cons rfl (EnvLe.cons rfl (EnvLe.nil _))))))) (fun _ h => h)
            · refine xj_then ?_
              refine cj_cond (b := ((c.kind == 7) && (!x0.writer)) && ((x0.queue.length : Int) == 0)) rfl (fun h38 => ?_) (fun h38 => ?_)
              · obtain ⟨h39, h40⟩ := Bool.and_eq_true_iff.1 h38
                obtain ⟨h41, h42⟩ := Bool.and_eq_true_iff.1 h39
                have c43 : c.kind = 7 := by simpa using h41
                have h44 : x0.writer = false := by simpa using h42
                have c45 := h44
                have c46 : (x0.queue.length : Int) = 0 := by simpa using h40
                refine cj_seq ?_
                refine cj_region ?_
                refine oj_v (ov_move rfl rfl) rfl rfl rfl ?_
                refine oj_v (ov_move rfl rfl) rfl rfl rfl ?_
                refine oj_v (ov_loadn (cs := [(.int .i64 c.session), (.int .i64 c.seq), (.bool (c.kind == 7))]) rfl rfl T_a197 (rds_pts (i := 6) rfl rfl)) rfl rfl rfl ?_
                refine oj_sat (l' := [(LockR x0 p), (all lockE (adel c.name l)), (pts b (.cells #[(.map (some mb)), (.int .u64 (tok : Int))] 195 (0, 0))), (mp encS mb (l.map ptrE)), (pts b11 (.cells #[(.int .i64 c.session), (.int .i64 c.seq), (.bool (c.kind == 7))] 197 (0, 0))), (pts b1 (.cells #[(.int .i64 c.kind), (.int .i64 c.session), (.int .i64 c.seq), (.string (ba c.name)), (.int .i64 c.n)] 24 (0, 0))), F]) (sat_close (r := [(all lockE (adel c.name l)), (pts b (.cells #[(.map (some mb)), (.int .u64 (tok : Int))] 195 (0, 0))), (mp encS mb (l.map ptrE)), (pts b11 (.cells #[(.int .i64 c.session), (.int .i64 c.seq), (.bool (c.kind == 7))] 197 (0, 0))), (pts b1 (.cells #[(.int .i64 c.kind), (.int .i64 c.session), (.int .i64 c.seq), (.string (ba c.name)), (.int .i64 c.n)] 24 (0, 0))), F]) ⟨ha, hc, wa, wc⟩ [0, 1, 2, 3, 4, 5, 6, 7, 8] (by decide +kernel) rfl rfl rfl) ?_
                refine oj_e (oe_call rfl rfl rfl Try.func122 rfl rfl (rest := [(all lockE (adel c.name l)), (mp encS mb (l.map ptrE)), (pts b11 (.cells #[(.int .i64 c.session), (.int .i64 c.seq), (.bool (c.kind == 7))] 197 (0, 0))), (pts b1 (.cells #[(.int .i64 c.kind), (.int .i64 c.session), (.int .i64 c.seq), (.string (ba c.name)), (.int .i64 c.n)] 24 (0, 0))), F]) (lk_grant b p mb tok x0 (wtC c) hxo.1 (by omega) ht) (js := [2, 0, 1, 3, 4, 5, 6]) ⟨by decide +kernel, rfl, rfl⟩) rfl rfl rfl (fun _ => ?_)
                refine oj_eq (e' := [(98, (.agg #[(.int .i64 ((grantR tok (wtC c)).session)), (.int .i64 ((grantR tok (wtC c)).seq)), (.int .i64 ((grantR tok (wtC c)).err)), (.int .u64 ((grantR tok (wtC c)).token : Int)), (.int .i64 ((grantR tok (wtC c)).n))])), (97, (.agg #[(.int .i64 c.session), (.int .i64 c.seq), (.bool (c.kind == 7))])), (96, (.pointer (some ⟨p, 0, none⟩))), (95, (.pointer (some ⟨b, 0, none⟩))), (77, (.bool (((c.kind == 7) && (!x0.writer)) && ((x0.queue.length : Int) == 0)))), (7, (.pointer (some ⟨p, 0, none⟩))), (6, (.pointer (some ⟨b11, 0, none⟩))), (5, (.bool false)), (4, (.slice none 0 0)), (0, (.pointer (some ⟨b, 0, none⟩)))]) (l' := [(pts b (.cells #[(.map (some mb)), (.int .u64 ((grantT tok (wtC c)) : Int))] 195 (0, 0))), (LockR (grantX tok x0 (wtC c)) p), (all lockE (adel c.name l)), (mp encS mb (l.map ptrE)), (pts b11 (.cells #[(.int .i64 c.session), (.int .i64 c.seq), (.bool (c.kind == 7))] 197 (0, 0))), (pts b1 (.cells #[(.int .i64 c.kind), (.int .i64 c.session), (.int .i64 c.seq), (.string (ba c.name)), (.int .i64 c.n)] 24 (0, 0))), F]) rfl rfl ?_
                refine oj_e (oe_buildSlice (cells := #[(.int .i64 ((grantR tok (wtC c)).session)), (.int .i64 ((grantR tok (wtC c)).seq)), (.int .i64 ((grantR tok (wtC c)).err)), (.int .u64 ((grantR tok (wtC c)).token : Int)), (.int .i64 ((grantR tok (wtC c)).n))]) rfl T_e85 T_z56 rfl rfl rfl rfl) rfl rfl rfl (fun b47 => ?_)
                refine oj_eq (e' := [(99, (.slice (some ⟨b47, 0, none⟩) 1 1)), (98, (.agg #[(.int .i64 ((grantR tok (wtC c)).session)), (.int .i64 ((grantR tok (wtC c)).seq)), (.int .i64 ((grantR tok (wtC c)).err)), (.int .u64 ((grantR tok (wtC c)).token : Int)), (.int .i64 ((grantR tok (wtC c)).n))])), (97, (.agg #[(.int .i64 c.session), (.int .i64 c.seq), (.bool (c.kind == 7))])), (96, (.pointer (some ⟨p, 0, none⟩))), (95, (.pointer (some ⟨b, 0, none⟩))), (77, (.bool (((c.kind == 7) && (!x0.writer)) && ((x0.queue.length : Int) == 0)))), (7, (.pointer (some ⟨p, 0, none⟩))), (6, (.pointer (some ⟨b11, 0, none⟩))), (5, (.bool false)), (4, (.slice none 0 0)), (0, (.pointer (some ⟨b, 0, none⟩)))]) (l' := [(pts b47 (.cells #[(.int .i64 ((grantR tok (wtC c)).session)), (.int .i64 ((grantR tok (wtC c)).seq)), (.int .i64 ((grantR tok (wtC c)).err)), (.int .u64 ((grantR tok (wtC c)).token : Int)), (.int .i64 ((grantR tok (wtC c)).n))] 56 (0, 0))), (pts b (.cells #[(.map (some mb)), (.int .u64 ((grantT tok (wtC c)) : Int))] 195 (0, 0))), (LockR (grantX tok x0 (wtC c)) p), (all lockE (adel c.name l)), (mp encS mb (l.map ptrE)), (pts b11 (.cells #[(.int .i64 c.session), (.int .i64 c.seq), (.bool (c.kind == 7))] 197 (0, 0))), (pts b1 (.cells #[(.int .i64 c.kind), (.int .i64 c.session), (.int .i64 c.seq), (.string (ba c.name)), (.int .i64 c.n)] 24 (0, 0))), F]) rfl rfl ?_
                refine oj_v (ov_assign rfl rfl) rfl rfl rfl ?_
                refine oj_v (ov_assign rfl rfl) rfl rfl rfl ?_
                refine oj_nil ?_
                refine xj_then ?_
                refine cj_weak (e' := [(5, (.bool false)), (4, (.slice (some ⟨b47, 0, none⟩) 1 1)), (7, (.pointer (some ⟨p, 0, none⟩))), (6, (.pointer (some ⟨b11, 0, none⟩)))]) (EnvLe.cons rfl (EnvLe.cons rfl (EnvLe.cons rfl (EnvLe.cons rfl (EnvLe.nil _))))) (fun _ h => h) ?_
                refine cj_ret ?_
                refine xj_block_ret ?_
                refine xj_then_other (by simp) ?_
                have hq9 : ((c.kind == 7) && !x0.writer && (x0.queue.length == 0)) = true := wait_cond h38
                rw [ask_join (kind_of h5) hget h25 hq9]
                refine xj_ret (vs := [(.slice (some ⟨b47, 0, none⟩) 1 1), (.bool false)]) (some ⟨b47, 0, none⟩, 1) rfl rfl ?_
                exact fun h hs => (fun h hs => Sat.head_mono (sl_of_pts (m := 1) (k := 5) rfl (by decide)) (Sat.tail_mono (locks_put (x := x0) f13 hrl hpl) hs)) h (sat_sub (l' := [(pts b47 (.cells #[(.int .i64 ((grantR tok (wtC c)).session)), (.int .i64 ((grantR tok (wtC c)).seq)), (.int .i64 ((grantR tok (wtC c)).err)), (.int .u64 ((grantR tok (wtC c)).token : Int)), (.int .i64 ((grantR tok (wtC c)).n))] 56 (0, 0))), (pts b (.cells #[(.map (some mb)), (.int .u64 ((grantT tok (wtC c)) : Int))] 195 (0, 0))), (mp encS mb (l.map ptrE)), (LockR (grantX tok x0 (wtC c)) p), (all lockE (adel c.name l)), F]) [0, 1, 4, 2, 3, 7] [5, 6] (by decide +kernel) rfl rfl h hs)
              · have c48 := Bool.and_eq_false_iff.1 h38
                refine cj_skip ?_
                refine xj_block_normal ?_
                refine xj_then ?_
                refine cj_seq ?_
                refine cj_sched [(pts p (.cells #[(.slice ha x0.held.length hc), (.bool x0.writer), (.slice wa x0.queue.length wc)] 202 (0, 0))), (pts b11 (.cells #[(.int .i64 c.session), (.int .i64 c.seq), (.bool (c.kind == 7))] 197 (0, 0)))] [10] [(0, true), (1, true), (2, true), (3, true), (4, true), (5, false), (6, false), (7, false), (8, false), (9, false), (10, false)] T_mixed (by decide +kernel) rfl ?_
                refine dj_eq (e' := [(77, (.bool (((c.kind == 7) && (!x0.writer)) && ((x0.queue.length : Int) == 0)))), (7, (.pointer (some ⟨p, 0, none⟩))), (6, (.pointer (some ⟨b11, 0, none⟩))), (5, (.bool false)), (4, (.slice none 0 0)), (0, (.pointer (some ⟨b, 0, none⟩)))]) (l' := [(pts p (.cells #[(.slice ha x0.held.length hc), (.bool x0.writer), (.slice wa x0.queue.length wc)] 202 (0, 0))), (sl 3 1 ha x0.held.length hc (x0.held.flatMap ei)), (sl 197 3 wa x0.queue.length wc (x0.queue.flatMap encW)), (all lockE (adel c.name l)), (pts b (.cells #[(.map (some mb)), (.int .u64 (tok : Int))] 195 (0, 0))), (mp encS mb (l.map ptrE)), (pts b11 (.cells #[(.int .i64 c.session), (.int .i64 c.seq), (.bool (c.kind == 7))] 197 (0, 0))), (pts b1 (.cells #[(.int .i64 c.kind), (.int .i64 c.session), (.int .i64 c.seq), (.string (ba c.name)), (.int .i64 c.n)] 24 (0, 0))), F]) rfl rfl ?_
                refine dj_v (np_then np_body) (ov_move rfl rfl) rfl rfl rfl (sat_sub [0, 6] [1, 2, 3, 4, 5, 7, 8] (by decide +kernel) rfl rfl) ?_
                refine dj_v (np_then np_body) (ov_move rfl rfl) rfl rfl rfl (sat_sub [0, 6] [1, 2, 3, 4, 5, 7, 8] (by decide +kernel) rfl rfl) ?_
                refine dj_v (np_then np_body) (ov_nilCheck rfl rfl) rfl rfl rfl (sat_sub [0, 6] [1, 2, 3, 4, 5, 7, 8] (by decide +kernel) rfl rfl) ?_
                refine dj_v (np_then np_body) (ov_fieldAddr rfl rfl T_f202_2) rfl rfl rfl (sat_sub [0, 6] [1, 2, 3, 4, 5, 7, 8] (by decide +kernel) rfl rfl) ?_
                refine dj_v (np_then np_body) (ov_load1 (v := (.slice wa x0.queue.length wc)) rfl rfl T_o200 (rd_pts (i := 0) rfl rfl)) rfl rfl rfl (sat_sub [0, 6] [1, 2, 3, 4, 5, 7, 8] (by decide +kernel) rfl rfl) ?_
                refine dj_e (oe_of_v (ov_loadn (cs := [(.int .i64 c.session), (.int .i64 c.seq), (.bool (c.kind == 7))]) rfl rfl T_a197 (rds_pts (i := 6) rfl rfl))) rfl rfl rfl (.inr (fun _ => sat_sub [0, 6] [1, 2, 3, 4, 5, 7, 8] (by decide +kernel) rfl rfl)) (fun _ => ?_)
                refine dj_e (oe_buildSlice (cells := #[(.int .i64 c.session), (.int .i64 c.seq), (.bool (c.kind == 7))]) rfl T_e200 T_z197 rfl rfl rfl rfl) rfl rfl rfl (.inr (fun b49 => sat_sub [1, 7] [0, 2, 3, 4, 5, 6, 8, 9] (by decide +kernel) rfl rfl)) (fun b49 => ?_)
                refine dj_eq (e' := [(106, (.slice (some ⟨b49, 0, none⟩) 1 1)), (105, (.agg #[(.int .i64 c.session), (.int .i64 c.seq), (.bool (c.kind == 7))])), (104, (.slice wa x0.queue.length wc)), (103, (.pointer (some ⟨p, 2, none⟩))), (102, (.pointer (some ⟨p, 0, none⟩))), (101, (.pointer (some ⟨p, 0, none⟩))), (100, (.pointer (some ⟨p, 0, none⟩))), (77, (.bool (((c.kind == 7) && (!x0.writer)) && ((x0.queue.length : Int) == 0)))), (7, (.pointer (some ⟨p, 0, none⟩))), (6, (.pointer (some ⟨b11, 0, none⟩))), (5, (.bool false)), (4, (.slice none 0 0)), (0, (.pointer (some ⟨b, 0, none⟩)))]) (l' := [(pts b49 (.cells #[(.int .i64 c.session), (.int .i64 c.seq), (.bool (c.kind == 7))] 197 (0, 0))), (pts p (.cells #[(.slice ha x0.held.length hc), (.bool x0.writer), (.slice wa x0.queue.length wc)] 202 (0, 0))), (sl 3 1 ha x0.held.length hc (x0.held.flatMap ei)), (sl 197 3 wa x0.queue.length wc (x0.queue.flatMap encW)), (all lockE (adel c.name l)), (pts b (.cells #[(.map (some mb)), (.int .u64 (tok : Int))] 195 (0, 0))), (mp encS mb (l.map ptrE)), (pts b11 (.cells #[(.int .i64 c.session), (.int .i64 c.seq), (.bool (c.kind == 7))] 197 (0, 0))), (pts b1 (.cells #[(.int .i64 c.kind), (.int .i64 c.session), (.int .i64 c.seq), (.string (ba c.name)), (.int .i64 c.n)] 24 (0, 0))), F]) rfl rfl ?_
                refine dj_e (oe_append (i := 3) (news := [(.int .i64 c.session), (.int .i64 c.seq), (.bool (c.kind == 7))]) rfl T_e200 rfl rfl rfl rfl (fun _ h => cells_of_pts (i := 0) rfl rfl h) (by simp [Value.oneCell']) (by unfold maxLen; omega) (by omega)) rfl rfl rfl (.inr (fun q50 => sat_sub [2, 7] [0, 1, 3, 4, 5, 6, 8, 9] (by decide +kernel) rfl rfl)) (fun q50 => ?_)
                refine dj_eq (e' := [(107, (.slice q50.1 (x0.queue.length + 1) q50.2)), (106, (.slice (some ⟨b49, 0, none⟩) 1 1)), (105, (.agg #[(.int .i64 c.session), (.int .i64 c.seq), (.bool (c.kind == 7))])), (104, (.slice wa x0.queue.length wc)), (103, (.pointer (some ⟨p, 2, none⟩))), (102, (.pointer (some ⟨p, 0, none⟩))), (101, (.pointer (some ⟨p, 0, none⟩))), (100, (.pointer (some ⟨p, 0, none⟩))), (77, (.bool (((c.kind == 7) && (!x0.writer)) && ((x0.queue.length : Int) == 0)))), (7, (.pointer (some ⟨p, 0, none⟩))), (6, (.pointer (some ⟨b11, 0, none⟩))), (5, (.bool false)), (4, (.slice none 0 0)), (0, (.pointer (some ⟨b, 0, none⟩)))]) (l' := [(sl 197 3 q50.1 (x0.queue.length + 1) q50.2 ((x0.queue.flatMap encW) ++ [(.int .i64 c.session), (.int .i64 c.seq), (.bool (c.kind == 7))])), (pts b49 (.cells #[(.int .i64 c.session), (.int .i64 c.seq), (.bool (c.kind == 7))] 197 (0, 0))), (pts p (.cells #[(.slice ha x0.held.length hc), (.bool x0.writer), (.slice wa x0.queue.length wc)] 202 (0, 0))), (sl 3 1 ha x0.held.length hc (x0.held.flatMap ei)), (all lockE (adel c.name l)), (pts b (.cells #[(.map (some mb)), (.int .u64 (tok : Int))] 195 (0, 0))), (mp encS mb (l.map ptrE)), (pts b11 (.cells #[(.int .i64 c.session), (.int .i64 c.seq), (.bool (c.kind == 7))] 197 (0, 0))), (pts b1 (.cells #[(.int .i64 c.kind), (.int .i64 c.session), (.int .i64 c.seq), (.string (ba c.name)), (.int .i64 c.n)] 24 (0, 0))), F]) rfl rfl ?_
                obtain ⟨na, nc⟩ := q50
                refine dj_eq (e' := [(107, (.slice na (x0.queue.length + 1) nc)), (106, (.slice (some ⟨b49, 0, none⟩) 1 1)), (105, (.agg #[(.int .i64 c.session), (.int .i64 c.seq), (.bool (c.kind == 7))])), (104, (.slice wa x0.queue.length wc)), (103, (.pointer (some ⟨p, 2, none⟩))), (102, (.pointer (some ⟨p, 0, none⟩))), (101, (.pointer (some ⟨p, 0, none⟩))), (100, (.pointer (some ⟨p, 0, none⟩))), (77, (.bool (((c.kind == 7) && (!x0.writer)) && ((x0.queue.length : Int) == 0)))), (7, (.pointer (some ⟨p, 0, none⟩))), (6, (.pointer (some ⟨b11, 0, none⟩))), (5, (.bool false)), (4, (.slice none 0 0)), (0, (.pointer (some ⟨b, 0, none⟩)))]) (l' := [(sl 197 3 na (x0.queue.length + 1) nc ((x0.queue.flatMap encW) ++ [(.int .i64 c.session), (.int .i64 c.seq), (.bool (c.kind == 7))])), (pts b49 (.cells #[(.int .i64 c.session), (.int .i64 c.seq), (.bool (c.kind == 7))] 197 (0, 0))), (pts p (.cells #[(.slice ha x0.held.length hc), (.bool x0.writer), (.slice wa x0.queue.length wc)] 202 (0, 0))), (sl 3 1 ha x0.held.length hc (x0.held.flatMap ei)), (all lockE (adel c.name l)), (pts b (.cells #[(.map (some mb)), (.int .u64 (tok : Int))] 195 (0, 0))), (mp encS mb (l.map ptrE)), (pts b11 (.cells #[(.int .i64 c.session), (.int .i64 c.seq), (.bool (c.kind == 7))] 197 (0, 0))), (pts b1 (.cells #[(.int .i64 c.kind), (.int .i64 c.session), (.int .i64 c.seq), (.string (ba c.name)), (.int .i64 c.n)] 24 (0, 0))), F]) rfl rfl ?_
                refine dj_eq (e' := [(107, (.slice na ((x0.queue ++ [wtC c]).length) nc)), (106, (.slice (some ⟨b49, 0, none⟩) 1 1)), (105, (.agg #[(.int .i64 c.session), (.int .i64 c.seq), (.bool (c.kind == 7))])), (104, (.slice wa x0.queue.length wc)), (103, (.pointer (some ⟨p, 2, none⟩))), (102, (.pointer (some ⟨p, 0, none⟩))), (101, (.pointer (some ⟨p, 0, none⟩))), (100, (.pointer (some ⟨p, 0, none⟩))), (77, (.bool (((c.kind == 7) && (!x0.writer)) && ((x0.queue.length : Int) == 0)))), (7, (.pointer (some ⟨p, 0, none⟩))), (6, (.pointer (some ⟨b11, 0, none⟩))), (5, (.bool false)), (4, (.slice none 0 0)), (0, (.pointer (some ⟨b, 0, none⟩)))]) (l' := [(sl 197 3 na ((x0.queue ++ [wtC c]).length) nc ((x0.queue ++ [wtC c]).flatMap encW)), (pts b49 (.cells #[(.int .i64 c.session), (.int .i64 c.seq), (.bool (c.kind == 7))] 197 (0, 0))), (pts p (.cells #[(.slice ha x0.held.length hc), (.bool x0.writer), (.slice wa x0.queue.length wc)] 202 (0, 0))), (sl 3 1 ha x0.held.length hc (x0.held.flatMap ei)), (all lockE (adel c.name l)), (pts b (.cells #[(.map (some mb)), (.int .u64 (tok : Int))] 195 (0, 0))), (mp encS mb (l.map ptrE)), (pts b11 (.cells #[(.int .i64 c.session), (.int .i64 c.seq), (.bool (c.kind == 7))] 197 (0, 0))), (pts b1 (.cells #[(.int .i64 c.kind), (.int .i64 c.session), (.int .i64 c.seq), (.string (ba c.name)), (.int .i64 c.n)] 24 (0, 0))), F]) (by simp) (by simp [encW]) ?_
                refine dj_e (oe_of_v (ov_nilCheck rfl rfl)) rfl rfl rfl (.inr (fun _ => sat_sub [2, 7] [0, 1, 3, 4, 5, 6, 8, 9] (by decide +kernel) rfl rfl)) (fun _ => ?_)
                refine dj_e (oe_of_v (ov_fieldAddr rfl rfl T_f202_2)) rfl rfl rfl (.inr (fun _ => sat_sub [2, 7] [0, 1, 3, 4, 5, 6, 8, 9] (by decide +kernel) rfl rfl)) (fun _ => ?_)
                refine dj_e0 (oe_store1 (i := 2) rfl rfl rfl T_o200 rfl rfl rfl) rfl rfl (.inl rfl) (fun _ => ?_)
                refine dj_eq (e' := [(109, (.pointer (some ⟨p, 2, none⟩))), (108, (.pointer (some ⟨p, 0, none⟩))), (107, (.slice na ((x0.queue ++ [wtC c]).length) nc)), (106, (.slice (some ⟨b49, 0, none⟩) 1 1)), (105, (.agg #[(.int .i64 c.session), (.int .i64 c.seq), (.bool (c.kind == 7))])), (104, (.slice wa x0.queue.length wc)), (103, (.pointer (some ⟨p, 2, none⟩))), (102, (.pointer (some ⟨p, 0, none⟩))), (101, (.pointer (some ⟨p, 0, none⟩))), (100, (.pointer (some ⟨p, 0, none⟩))), (77, (.bool (((c.kind == 7) && (!x0.writer)) && ((x0.queue.length : Int) == 0)))), (7, (.pointer (some ⟨p, 0, none⟩))), (6, (.pointer (some ⟨b11, 0, none⟩))), (5, (.bool false)), (4, (.slice none 0 0)), (0, (.pointer (some ⟨b, 0, none⟩)))]) (l' := [(sl 197 3 na ((x0.queue ++ [wtC c]).length) nc ((x0.queue ++ [wtC c]).flatMap encW)), (pts b49 (.cells #[(.int .i64 c.session), (.int .i64 c.seq), (.bool (c.kind == 7))] 197 (0, 0))), (pts p (.cells #[(.slice ha x0.held.length hc), (.bool x0.writer), (.slice na ((x0.queue ++ [wtC c]).length) nc)] 202 (0, 0))), (sl 3 1 ha x0.held.length hc (x0.held.flatMap ei)), (all lockE (adel c.name l)), (pts b (.cells #[(.map (some mb)), (.int .u64 (tok : Int))] 195 (0, 0))), (mp encS mb (l.map ptrE)), (pts b11 (.cells #[(.int .i64 c.session), (.int .i64 c.seq), (.bool (c.kind == 7))] 197 (0, 0))), (pts b1 (.cells #[(.int .i64 c.kind), (.int .i64 c.session), (.int .i64 c.seq), (.string (ba c.name)), (.int .i64 c.n)] 24 (0, 0))), F]) rfl rfl ?_
                refine dj_nil ?_
                refine xj_then ?_
                refine cj_weak (e' := [(5, (.bool false)), (4, (.slice none 0 0))]) (EnvLe.cons rfl (EnvLe.cons rfl (EnvLe.nil _))) (fun _ h => h) ?_
                refine cj_seq ?_
                refine cj_region ?_
                refine oj_v (ov_assign rfl rfl) rfl rfl rfl ?_
                refine oj_v (ov_assign rfl rfl) rfl rfl rfl ?_
                refine oj_nil ?_
                refine xj_then ?_
                refine cj_ret ?_
                refine xj_sat (l' := [(LockR (Lk.mk x0.held x0.writer (x0.queue ++ [wtC c])) p), (pts b49 (.cells #[(.int .i64 c.session), (.int .i64 c.seq), (.bool (c.kind == 7))] 197 (0, 0))), (all lockE (adel c.name l)), (pts b (.cells #[(.map (some mb)), (.int .u64 (tok : Int))] 195 (0, 0))), (mp encS mb (l.map ptrE)), (pts b11 (.cells #[(.int .i64 c.session), (.int .i64 c.seq), (.bool (c.kind == 7))] 197 (0, 0))), (pts b1 (.cells #[(.int .i64 c.kind), (.int .i64 c.session), (.int .i64 c.seq), (.string (ba c.name)), (.int .i64 c.n)] 24 (0, 0))), F]) (sat_close (r := [(pts b49 (.cells #[(.int .i64 c.session), (.int .i64 c.seq), (.bool (c.kind == 7))] 197 (0, 0))), (all lockE (adel c.name l)), (pts b (.cells #[(.map (some mb)), (.int .u64 (tok : Int))] 195 (0, 0))), (mp encS mb (l.map ptrE)), (pts b11 (.cells #[(.int .i64 c.session), (.int .i64 c.seq), (.bool (c.kind == 7))] 197 (0, 0))), (pts b1 (.cells #[(.int .i64 c.kind), (.int .i64 c.session), (.int .i64 c.seq), (.string (ba c.name)), (.int .i64 c.n)] 24 (0, 0))), F]) ⟨ha, hc, na, nc⟩ [2, 3, 0, 1, 4, 5, 6, 7, 8, 9] (by decide +kernel) rfl rfl rfl) ?_
                have hq9 : ((c.kind == 7) && !x0.writer && (x0.queue.length == 0)) = false := wait_cond h38
                rw [ask_wait (kind_of h5) hget h25 hq9]
                refine xj_ret (vs := [(.slice none 0 0), (.bool true)]) (none, 0) rfl rfl ?_
                exact fun h hs => (fun h hs => Sat.sl_new (locks_put (x := x0) f13 hrl hpl h hs)) h (sat_sub (l' := [(pts b (.cells #[(.map (some mb)), (.int .u64 (tok : Int))] 195 (0, 0))), (mp encS mb (l.map ptrE)), (LockR (Lk.mk x0.held x0.writer (x0.queue ++ [wtC c])) p), (all lockE (adel c.name l)), F]) [3, 4, 0, 2, 7] [1, 5, 6] (by decide +kernel) rfl rfl h hs)

end Go.Proofs.Ytbjdadekheoebaa
