/- The law of tokens, walked. -/
import Derived.Test.YtbjdadekheoebaaLkW
import Derived.Test.YtbjdadekheoebaaLockT
set_option linter.all false
set_option linter.unusedVariables false
set_option linter.unusedSimpArgs false
set_option linter.unusedSectionVars false
set_option linter.unnecessarySimpa false
namespace Go.Proofs.Ytbjdadekheoebaa
open Go.RowKit Go.Lib

theorem okM_nil : okM 0 ([] : Lks) := ⟨by simp [Rising], by simp, by simp⟩
theorem fit_len {c : Cm} (h : fitM c = true) : c.name.length ≤ 1099511627776 := by
  simp only [fitM, Bool.and_eq_true, decide_eq_true_eq] at h; omega

set_option maxRecDepth 100000 in
set_option maxHeartbeats 8000000 in
theorem lk_tokens (H : HL) (a : Option Addr) (c : Nat) (ds : List Dd) (fr : Nat) (hfr : fr ≤ topTok) : Spec Try.prog 7 [(.slice a ds.length c), (.int .u64 (fr : Int))] [(arg H 7 a ds.length (ds.flatMap encD))] (fun x : Unit => .bool true) (fun x : Unit => [(arg H 7 a ds.length (ds.flatMap encD))]) := by
  refine spec_of (fn := Try.f7) Try.func7 rfl rfl rfl fun F s => ?_
  show CJ _ _ _ _ _ [(0, (.slice a ds.length c)), (1, (.int .u64 (fr : Int)))] [(arg H 7 a ds.length (ds.flatMap encD)), F]
  refine cj_seq ?_
  refine cj_region ?_
  refine oj_v (ov_assign rfl rfl) rfl rfl rfl ?_
  refine oj_nil ?_
  refine xj_then ?_
  refine cj_seq ?_
  refine cj_region ?_
  refine oj_e (oe_call rfl rfl rfl Try.func37 rfl rfl (rest := [(arg H 7 a ds.length (ds.flatMap encD)), F]) lk_new (js := [0, 1]) ⟨by decide +kernel, rfl, rfl⟩) rfl rfl rfl (fun b1 => ?_)
  refine oj_eq (e' := [(14, (.pointer (some ⟨b1, 0, none⟩))), (4, (.bool false)), (0, (.slice a ds.length c)), (1, (.int .u64 (fr : Int)))]) (l' := [(LocksR [] 0 b1), (arg H 7 a ds.length (ds.flatMap encD)), F]) rfl rfl ?_
  refine oj_v (ov_assign rfl rfl) rfl rfl rfl ?_
  refine oj_nil ?_
  refine xj_then ?_
  refine cj_seq ?_
  refine cj_seq ?_
  refine cj_region ?_
  refine oj_v (ov_move rfl rfl) rfl rfl rfl ?_
  refine oj_v (ov_peql rfl rfl rfl Try.underlying78) rfl rfl rfl ?_
  refine oj_nil ?_
  refine xj_then ?_
  refine cj_false rfl ?_
  refine cj_skip ?_
  refine xj_then ?_
  refine cj_weak (e' := [(5, (.pointer (some ⟨b1, 0, none⟩))), (4, (.bool false)), (0, (.slice a ds.length c)), (1, (.int .u64 (fr : Int)))]) (EnvLe.cons rfl (EnvLe.cons rfl (EnvLe.cons rfl (EnvLe.cons rfl (EnvLe.nil _))))) (fun _ h => h) ?_
  refine cj_seq ?_
  refine cj_region ?_
  refine oj_v (ov_move rfl rfl) rfl rfl rfl ?_
  refine oj_v (ov_move rfl rfl) rfl rfl rfl ?_
  refine oj_e (oe_call rfl rfl rfl Try.func38 rfl rfl (rest := [(arg H 7 a ds.length (ds.flatMap encD)), F]) (lk_setToken b1 0 fr []) (js := [0, 1, 2]) ⟨by decide +kernel, rfl, rfl⟩) rfl rfl rfl (fun _ => ?_)
  refine oj_eq (e' := [(19, (.tuple #[])), (18, (.int .u64 (fr : Int))), (17, (.pointer (some ⟨b1, 0, none⟩))), (5, (.pointer (some ⟨b1, 0, none⟩))), (4, (.bool false)), (0, (.slice a ds.length c)), (1, (.int .u64 (fr : Int)))]) (l' := [(LocksR [] fr b1), (arg H 7 a ds.length (ds.flatMap encD)), F]) rfl rfl ?_
  refine oj_nil ?_
  refine xj_then ?_
  refine cj_weak (e' := [(5, (.pointer (some ⟨b1, 0, none⟩))), (4, (.bool false)), (0, (.slice a ds.length c))]) (EnvLe.cons rfl (EnvLe.cons rfl (EnvLe.cons rfl (EnvLe.nil _)))) (fun _ h => h) ?_
  refine cj_seq ?_
  refine cj_seq ?_
  refine cj_region ?_
  refine oj_v (ov_assign rfl rfl) rfl rfl rfl ?_
  refine oj_nil ?_
  refine xj_then ?_
  refine cj_block ?_
  refine cj_loop (fun x : Nat × Nat × Lks => [(0, (.slice a ds.length c)), (5, (.pointer (some ⟨b1, 0, none⟩))), (6, (.int .i64 (x.1 : Int)))]) (fun x : Nat × Nat × Lks => [(fact (x.1 ≤ 200 ∧ okM x.1 x.2.2 ∧ x.2.1 ≤ topTok)), (arg H 7 a ds.length (ds.flatMap encD)), (LocksR x.2.2 x.2.1 b1), F]) (fun x : Nat × Nat × Lks => 200 - x.1) ⟨0, fr, []⟩ (EnvLe.cons rfl (EnvLe.cons rfl (EnvLe.cons rfl (EnvLe.nil _)))) (fun h hs => Sat.fact_in ⟨by omega, okM_nil, hfr⟩ (sat_sub [1, 0, 2] [] (by decide +kernel) rfl rfl h hs)) ?_
  rintro ⟨i, tk, mm⟩
  refine cj_eq (e' := [(0, (.slice a ds.length c)), (5, (.pointer (some ⟨b1, 0, none⟩))), (6, (.int .i64 (i : Int)))]) (l' := [(fact (i ≤ 200 ∧ okM i mm ∧ tk ≤ topTok)), (arg H 7 a ds.length (ds.flatMap encD)), (LocksR mm tk b1), F]) rfl rfl ?_
  refine cj_fact (sat_fact 0 rfl) (fun hinv => ?_)
  refine cj_sat (l' := [(arg H 7 a ds.length (ds.flatMap encD)), (LocksR mm tk b1), F]) (sat_sub [1, 2, 3] [0] (by decide +kernel) rfl rfl) ?_
  have hi200 := hinv.1
  refine cj_seq ?_
  refine cj_seq ?_
  refine cj_pass (e' := [(27, (.bool ((decide ((i : Int) < (ds.length : Int))) && (decide ((i : Int) < 200))))), (0, (.slice a ds.length c)), (5, (.pointer (some ⟨b1, 0, none⟩))), (6, (.int .i64 (i : Int)))]) (l' := [(arg H 7 a ds.length (ds.flatMap encD)), (LocksR mm tk b1), F]) ?_ ?_
  · refine cj_region ?_
    refine og_v (ov_move rfl rfl) rfl rfl rfl ?_
    refine og_v (ov_move rfl rfl) rfl rfl rfl ?_
    refine og_v (ov_lenL rfl rfl rfl Try.underlying77) rfl rfl rfl ?_
    refine og_v (ov_lss rfl rfl rfl) rfl rfl rfl ?_
    refine og_v (ov_move rfl rfl) rfl rfl rfl ?_
    refine oj_case (fun h2 => ?_) (fun h2 => ?_)
    · have c3 : (i : Int) < (ds.length : Int) := of_decide_eq_true h2
      refine og_v (ov_move rfl rfl) rfl rfl rfl ?_
      refine og_v (ov_lss rfl rfl rfl) rfl rfl rfl ?_
      refine og_v (ov_pick rfl rfl rfl rfl) rfl rfl rfl ?_
      refine oj_nil ?_
      exact xj_pass (EnvLe.cons (by first | (simp [look, h2]; done) | (simp [look, h2]; omega) | (simp [look, h2]; intros; omega)) (EnvLe.cons rfl (EnvLe.cons rfl (EnvLe.cons rfl (EnvLe.nil _))))) (fun _ h => h)
    · have c4 : ¬ ((i : Int) < (ds.length : Int)) := of_decide_eq_false h2
      refine og_skip rfl rfl rfl ?_
      refine og_skip rfl rfl rfl ?_
      refine og_v (ov_pick rfl rfl rfl rfl) rfl rfl rfl ?_
      refine oj_nil ?_
      exact xj_pass (EnvLe.cons (by first | (simp [look, h2]; done) | (simp [look, h2]; omega) | (simp [look, h2]; intros; omega)) (EnvLe.cons rfl (EnvLe.cons rfl (EnvLe.cons rfl (EnvLe.nil _))))) (fun _ h => h)
  · refine xj_then ?_
    refine cj_cond (b := (decide ((i : Int) < (ds.length : Int))) && (decide ((i : Int) < 200))) rfl (fun h5 => ?_) (fun h5 => ?_)
    · obtain ⟨h6, h7⟩ := Bool.and_eq_true_iff.1 h5
      have c8 : (i : Int) < (ds.length : Int) := of_decide_eq_true h6
      have c9 : (i : Int) < 200 := of_decide_eq_true h7
      refine cj_skip ?_
      refine xj_then ?_
      refine cj_seq ?_
      refine cj_block ?_
      refine cj_seq ?_
      obtain ⟨d, hd⟩ := at_lt (qs := ds) (i := i) (by omega)
      refine cj_fact (sat_know 0 rfl (fun h hs => arg_some hs (by omega))) (fun ⟨g10, o11, hg10⟩ => ?_)
      subst hg10
      refine cj_region ?_
      refine oj_v (ov_move rfl rfl) rfl rfl rfl ?_
      refine oj_v (ov_move rfl rfl) rfl rfl rfl ?_
      refine oj_v (ov_indexAddrR (j := i) rfl rfl rfl Try.underlying77 T_s82 (by omega) (by omega)) rfl rfl rfl ?_
      refine oj_v (ov_loadn (cs := [(.int .i64 d.kind), (.int .i64 d.c.kind), (.int .i64 d.c.session), (.int .i64 d.c.seq), (.string (ba d.c.name)), (.int .i64 d.c.n), (.int .u64 (d.token : Int))]) rfl rfl T_a82 (rds_elk (i := 0) (j := i) 0 encD_len rfl hd rfl)) rfl rfl rfl ?_
      refine oj_e (oe_alloc rfl T_z82) rfl rfl rfl (fun b12 => ?_)
      refine oj_eq (e' := [(7, (.pointer (some ⟨b12, 0, none⟩))), (33, (.agg #[(.int .i64 d.kind), (.int .i64 d.c.kind), (.int .i64 d.c.session), (.int .i64 d.c.seq), (.string (ba d.c.name)), (.int .i64 d.c.n), (.int .u64 (d.token : Int))])), (32, (.pointer (some ⟨g10, (o11 + i * 7), none⟩))), (31, (.int .i64 (i : Int))), (30, (.slice (some ⟨g10, o11, none⟩) ds.length c)), (27, (.bool ((decide ((i : Int) < (ds.length : Int))) && (decide ((i : Int) < 200))))), (0, (.slice (some ⟨g10, o11, none⟩) ds.length c)), (5, (.pointer (some ⟨b1, 0, none⟩))), (6, (.int .i64 (i : Int)))]) (l' := [(pts b12 (.cells #[(.int .i64 0), (.int .i64 0), (.int .i64 0), (.int .i64 0), (.string .empty), (.int .i64 0), (.int .u64 0)] 82 (0, 0))), (arg H 7 (some ⟨g10, o11, none⟩) ds.length (ds.flatMap encD)), (LocksR mm tk b1), F]) rfl rfl ?_
      refine oj_e0 (oe_storen (i := 0) rfl rfl rfl T_a82 rfl rfl (by simp [Value.oneCell'])) rfl rfl (fun _ => ?_)
      refine oj_eq (e' := [(7, (.pointer (some ⟨b12, 0, none⟩))), (33, (.agg #[(.int .i64 d.kind), (.int .i64 d.c.kind), (.int .i64 d.c.session), (.int .i64 d.c.seq), (.string (ba d.c.name)), (.int .i64 d.c.n), (.int .u64 (d.token : Int))])), (32, (.pointer (some ⟨g10, (o11 + i * 7), none⟩))), (31, (.int .i64 (i : Int))), (30, (.slice (some ⟨g10, o11, none⟩) ds.length c)), (27, (.bool ((decide ((i : Int) < (ds.length : Int))) && (decide ((i : Int) < 200))))), (0, (.slice (some ⟨g10, o11, none⟩) ds.length c)), (5, (.pointer (some ⟨b1, 0, none⟩))), (6, (.int .i64 (i : Int)))]) (l' := [(pts b12 (.cells #[(.int .i64 d.kind), (.int .i64 d.c.kind), (.int .i64 d.c.session), (.int .i64 d.c.seq), (.string (ba d.c.name)), (.int .i64 d.c.n), (.int .u64 (d.token : Int))] 82 (0, 0))), (arg H 7 (some ⟨g10, o11, none⟩) ds.length (ds.flatMap encD)), (LocksR mm tk b1), F]) rfl rfl ?_
      refine oj_nil ?_
      refine xj_then ?_
      refine cj_weak (e' := [(7, (.pointer (some ⟨b12, 0, none⟩))), (0, (.slice (some ⟨g10, o11, none⟩) ds.length c)), (5, (.pointer (some ⟨b1, 0, none⟩))), (6, (.int .i64 (i : Int)))]) (EnvLe.cons rfl (EnvLe.cons rfl (EnvLe.cons rfl (EnvLe.cons rfl (EnvLe.nil _))))) (fun _ h => h) ?_
      refine cj_seq ?_
      refine cj_seq ?_
      refine cj_region ?_
      refine oj_v (ov_fieldAddr rfl rfl T_f82_1) rfl rfl rfl ?_
      refine oj_v (ov_loadn (cs := [(.int .i64 d.c.kind), (.int .i64 d.c.session), (.int .i64 d.c.seq), (.string (ba d.c.name)), (.int .i64 d.c.n)]) rfl rfl T_a24 (rds_pts (i := 0) rfl rfl)) rfl rfl rfl ?_
      refine oj_e (oe_call rfl rfl rfl Try.func39 rfl rfl (rest := [(pts b12 (.cells #[(.int .i64 d.kind), (.int .i64 d.c.kind), (.int .i64 d.c.session), (.int .i64 d.c.seq), (.string (ba d.c.name)), (.int .i64 d.c.n), (.int .u64 (d.token : Int))] 82 (0, 0))), (arg H 7 (some ⟨g10, o11, none⟩) ds.length (ds.flatMap encD)), (LocksR mm tk b1), F]) (lk_fit d.c) (js := [0, 1, 2, 3]) ⟨by decide +kernel, rfl, rfl⟩) rfl rfl rfl (fun _ => ?_)
      refine oj_eq (e' := [(36, (.bool (fitM d.c))), (35, (.agg #[(.int .i64 d.c.kind), (.int .i64 d.c.session), (.int .i64 d.c.seq), (.string (ba d.c.name)), (.int .i64 d.c.n)])), (34, (.pointer (some ⟨b12, 1, none⟩))), (7, (.pointer (some ⟨b12, 0, none⟩))), (0, (.slice (some ⟨g10, o11, none⟩) ds.length c)), (5, (.pointer (some ⟨b1, 0, none⟩))), (6, (.int .i64 (i : Int)))]) (l' := [(pts b12 (.cells #[(.int .i64 d.kind), (.int .i64 d.c.kind), (.int .i64 d.c.session), (.int .i64 d.c.seq), (.string (ba d.c.name)), (.int .i64 d.c.n), (.int .u64 (d.token : Int))] 82 (0, 0))), (arg H 7 (some ⟨g10, o11, none⟩) ds.length (ds.flatMap encD)), (LocksR mm tk b1), F]) rfl rfl ?_
      refine oj_v (ov_not rfl rfl) rfl rfl rfl ?_
      refine oj_nil ?_
      refine xj_then ?_
      refine cj_weak (e' := [(37, (.bool (!(fitM d.c)))), (7, (.pointer (some ⟨b12, 0, none⟩))), (0, (.slice (some ⟨g10, o11, none⟩) ds.length c)), (5, (.pointer (some ⟨b1, 0, none⟩))), (6, (.int .i64 (i : Int)))]) (EnvLe.cons rfl (EnvLe.cons rfl (EnvLe.cons rfl (EnvLe.cons rfl (EnvLe.cons rfl (EnvLe.nil _)))))) (fun _ h => h) ?_
      refine cj_cond (b := !(fitM d.c)) rfl (fun h13 => ?_) (fun h13 => ?_)
      · have h14 : (fitM d.c) = false := by simpa using h13
        have c15 := h14
        refine cj_exit ?_
        refine xj_then_other (by simp) ?_
        refine xj_block_exit ?_
        refine xj_then ?_
        refine cj_region ?_
        refine oj_v (ov_move rfl rfl) rfl rfl rfl ?_
        refine oj_v (ov_add rfl rfl rfl (by omega)) rfl rfl rfl ?_
        refine oj_v (ov_assign rfl rfl) rfl rfl rfl ?_
        refine oj_nil ?_
        exact xj_round ⟨(i + 1), tk, mm⟩ (by dsimp only; omega) (EnvLe.cons rfl (EnvLe.cons rfl (EnvLe.cons rfl (EnvLe.nil _)))) (fun h hs => Sat.fact_in ⟨by omega, hinv.2.1.mono (by omega), hinv.2.2⟩ (sat_sub [1, 2, 3] [0] (by decide +kernel) rfl rfl h hs))
      · have h16 : (fitM d.c) = true := by simpa using h13
        have c17 := h16
        refine cj_skip ?_
        refine xj_then ?_
        refine cj_seq ?_
        refine cj_region ?_
        refine oj_v (ov_move rfl rfl) rfl rfl rfl ?_
        refine oj_e (oe_call rfl rfl rfl Try.func40 rfl rfl (rest := [(pts b12 (.cells #[(.int .i64 d.kind), (.int .i64 d.c.kind), (.int .i64 d.c.session), (.int .i64 d.c.seq), (.string (ba d.c.name)), (.int .i64 d.c.n), (.int .u64 (d.token : Int))] 82 (0, 0))), (arg H 7 (some ⟨g10, o11, none⟩) ds.length (ds.flatMap encD)), F]) (lk_token b1 tk mm) (js := [2, 0, 1, 3]) ⟨by decide +kernel, rfl, rfl⟩) rfl rfl rfl (fun _ => ?_)
        refine oj_eq (e' := [(39, (.int .u64 (tk : Int))), (38, (.pointer (some ⟨b1, 0, none⟩))), (37, (.bool (!(fitM d.c)))), (7, (.pointer (some ⟨b12, 0, none⟩))), (0, (.slice (some ⟨g10, o11, none⟩) ds.length c)), (5, (.pointer (some ⟨b1, 0, none⟩))), (6, (.int .i64 (i : Int)))]) (l' := [(LocksR mm tk b1), (pts b12 (.cells #[(.int .i64 d.kind), (.int .i64 d.c.kind), (.int .i64 d.c.session), (.int .i64 d.c.seq), (.string (ba d.c.name)), (.int .i64 d.c.n), (.int .u64 (d.token : Int))] 82 (0, 0))), (arg H 7 (some ⟨g10, o11, none⟩) ds.length (ds.flatMap encD)), F]) rfl rfl ?_
        refine oj_v (ov_assign rfl rfl) rfl rfl rfl ?_
        refine oj_nil ?_
        refine xj_then ?_
        refine cj_weak (e' := [(8, (.int .u64 (tk : Int))), (7, (.pointer (some ⟨b12, 0, none⟩))), (0, (.slice (some ⟨g10, o11, none⟩) ds.length c)), (5, (.pointer (some ⟨b1, 0, none⟩))), (6, (.int .i64 (i : Int)))]) (EnvLe.cons rfl (EnvLe.cons rfl (EnvLe.cons rfl (EnvLe.cons rfl (EnvLe.cons rfl (EnvLe.nil _)))))) (fun _ h => h) ?_
        refine cj_seq ?_
        refine cj_region ?_
        refine oj_v (ov_assign rfl rfl) rfl rfl rfl ?_
        refine oj_nil ?_
        refine xj_then ?_
        refine cj_cut (fun x : Nat × Lks × (List Rp) × (Option Addr) × Nat => [(0, (.slice (some ⟨g10, o11, none⟩) ds.length c)), (5, (.pointer (some ⟨b1, 0, none⟩))), (6, (.int .i64 (i : Int))), (8, (.int .u64 (tk : Int))), (9, (.slice x.2.2.2.1 x.2.2.1.length x.2.2.2.2))]) (fun x : Nat × Lks × (List Rp) × (Option Addr) × Nat => [(fact (Good tk x.1 x.2.2.1 ∧ okM (i + 1) x.2.1 ∧ x.1 ≤ topTok)), (arg H 7 (some ⟨g10, o11, none⟩) ds.length (ds.flatMap encD)), (LocksR x.2.1 x.1 b1), (sl 56 5 x.2.2.2.1 x.2.2.1.length x.2.2.2.2 (x.2.2.1.flatMap encR)), F]) ?_ ?_
        · refine cj_seq ?_
          refine cj_region ?_
          refine oj_v (ov_fieldAddr rfl rfl T_f82_0) rfl rfl rfl ?_
          refine oj_v (ov_load1 (v := (.int .i64 d.kind)) rfl rfl T_o3 (rd_pts (i := 1) rfl rfl)) rfl rfl rfl ?_
          refine oj_nil ?_
          refine xj_then ?_
          refine cj_block ?_
          refine cj_seq ?_
          refine cj_region ?_
          refine oj_v (ov_eql rfl rfl rfl) rfl rfl rfl ?_
          refine oj_v (ov_assign rfl rfl) rfl rfl rfl ?_
          refine oj_nil ?_
          refine xj_then ?_
          refine cj_cond (b := d.kind == 0) rfl (fun h18 => ?_) (fun h18 => ?_)
          · have c19 : d.kind = 0 := by simpa using h18
            refine cj_region ?_
            refine oj_v (ov_move rfl rfl) rfl rfl rfl ?_
            refine oj_v (ov_fieldAddr rfl rfl T_f82_1) rfl rfl rfl ?_
            refine oj_v (ov_loadn (cs := [(.int .i64 d.c.kind), (.int .i64 d.c.session), (.int .i64 d.c.seq), (.string (ba d.c.name)), (.int .i64 d.c.n)]) rfl rfl T_a24 (rds_pts (i := 1) rfl rfl)) rfl rfl rfl ?_
            refine oj_e (oe_call rfl rfl rfl Try.func41 rfl rfl (rest := [(pts b12 (.cells #[(.int .i64 d.kind), (.int .i64 d.c.kind), (.int .i64 d.c.session), (.int .i64 d.c.seq), (.string (ba d.c.name)), (.int .i64 d.c.n), (.int .u64 (d.token : Int))] 82 (0, 0))), (arg H 7 (some ⟨g10, o11, none⟩) ds.length (ds.flatMap encD)), F]) (lk_ask b1 tk i mm d.c hinv.2.1 (by omega) hinv.2.2 (fit_len (by simpa using h13))) (js := [0, 1, 2, 3]) ⟨by decide +kernel, rfl, rfl⟩) rfl rfl rfl (fun q20 => ?_)
            refine oj_eq (e' := [(48, (.tuple #[(.slice q20.1 (((askM tk mm d.c).1).length) q20.2), (.bool ((askM tk mm d.c).2.1))])), (47, (.agg #[(.int .i64 d.c.kind), (.int .i64 d.c.session), (.int .i64 d.c.seq), (.string (ba d.c.name)), (.int .i64 d.c.n)])), (46, (.pointer (some ⟨b12, 1, none⟩))), (45, (.pointer (some ⟨b1, 0, none⟩))), (42, (.bool (d.kind == 0))), (43, (.bool (d.kind == 0))), (41, (.int .i64 d.kind)), (40, (.pointer (some ⟨b12, 0, none⟩))), (9, (.slice none 0 0)), (8, (.int .u64 (tk : Int))), (7, (.pointer (some ⟨b12, 0, none⟩))), (0, (.slice (some ⟨g10, o11, none⟩) ds.length c)), (5, (.pointer (some ⟨b1, 0, none⟩))), (6, (.int .i64 (i : Int)))]) (l' := [(sl 56 5 q20.1 (((askM tk mm d.c).1).length) q20.2 (((askM tk mm d.c).1).flatMap encR)), (LocksR ((askM tk mm d.c).2.2.2) ((askM tk mm d.c).2.2.1) b1), (pts b12 (.cells #[(.int .i64 d.kind), (.int .i64 d.c.kind), (.int .i64 d.c.session), (.int .i64 d.c.seq), (.string (ba d.c.name)), (.int .i64 d.c.n), (.int .u64 (d.token : Int))] 82 (0, 0))), (arg H 7 (some ⟨g10, o11, none⟩) ds.length (ds.flatMap encD)), F]) rfl rfl ?_
            obtain ⟨qa, qc⟩ := q20
            refine oj_eq (e' := [(48, (.tuple #[(.slice qa (((askM tk mm d.c).1).length) qc), (.bool ((askM tk mm d.c).2.1))])), (47, (.agg #[(.int .i64 d.c.kind), (.int .i64 d.c.session), (.int .i64 d.c.seq), (.string (ba d.c.name)), (.int .i64 d.c.n)])), (46, (.pointer (some ⟨b12, 1, none⟩))), (45, (.pointer (some ⟨b1, 0, none⟩))), (42, (.bool (d.kind == 0))), (43, (.bool (d.kind == 0))), (41, (.int .i64 d.kind)), (40, (.pointer (some ⟨b12, 0, none⟩))), (9, (.slice none 0 0)), (8, (.int .u64 (tk : Int))), (7, (.pointer (some ⟨b12, 0, none⟩))), (0, (.slice (some ⟨g10, o11, none⟩) ds.length c)), (5, (.pointer (some ⟨b1, 0, none⟩))), (6, (.int .i64 (i : Int)))]) (l' := [(sl 56 5 qa (((askM tk mm d.c).1).length) qc (((askM tk mm d.c).1).flatMap encR)), (LocksR ((askM tk mm d.c).2.2.2) ((askM tk mm d.c).2.2.1) b1), (pts b12 (.cells #[(.int .i64 d.kind), (.int .i64 d.c.kind), (.int .i64 d.c.session), (.int .i64 d.c.seq), (.string (ba d.c.name)), (.int .i64 d.c.n), (.int .u64 (d.token : Int))] 82 (0, 0))), (arg H 7 (some ⟨g10, o11, none⟩) ds.length (ds.flatMap encD)), F]) rfl rfl ?_
            refine oj_v (ov_move rfl rfl) rfl rfl rfl ?_
            refine oj_v (ov_extract rfl rfl rfl) rfl rfl rfl ?_
            refine oj_v (ov_extract rfl rfl rfl) rfl rfl rfl ?_
            refine oj_v (ov_assign rfl rfl) rfl rfl rfl ?_
            refine oj_nil ?_
            refine xj_block_normal ?_
            exact xj_meet ⟨((askM tk mm d.c).2.2.1), ((askM tk mm d.c).2.2.2), ((askM tk mm d.c).1), qa, qc⟩  (EnvLe.cons rfl (EnvLe.cons rfl (EnvLe.cons rfl (EnvLe.cons rfl (EnvLe.cons rfl (EnvLe.nil _)))))) (fun h hs => Sat.fact_in ⟨good_ask _ _ _, askM_ok hinv.2.1, tok_ask hinv.2.2⟩ (sat_sub [3, 1, 0, 4] [2] (by decide +kernel) rfl rfl h hs))
          · have c21 : d.kind ≠ 0 := by simpa using h18
            refine cj_seq ?_
            refine cj_region ?_
            refine oj_v (ov_eql rfl rfl rfl) rfl rfl rfl ?_
            refine oj_v (ov_assign rfl rfl) rfl rfl rfl ?_
            refine oj_nil ?_
            refine xj_then ?_
            refine cj_weak (e' := [(51, (.bool (d.kind == 1))), (41, (.int .i64 d.kind)), (9, (.slice none 0 0)), (8, (.int .u64 (tk : Int))), (7, (.pointer (some ⟨b12, 0, none⟩))), (0, (.slice (some ⟨g10, o11, none⟩) ds.length c)), (5, (.pointer (some ⟨b1, 0, none⟩))), (6, (.int .i64 (i : Int)))]) (EnvLe.cons rfl (EnvLe.cons rfl (EnvLe.cons rfl (EnvLe.cons rfl (EnvLe.cons rfl (EnvLe.cons rfl (EnvLe.cons rfl (EnvLe.cons rfl (EnvLe.nil _))))))))) (fun _ h => h) ?_
            refine cj_cond (b := d.kind == 1) rfl (fun h22 => ?_) (fun h22 => ?_)
            · have c23 : d.kind = 1 := by simpa using h22
              refine cj_region ?_
              refine oj_v (ov_move rfl rfl) rfl rfl rfl ?_
              refine oj_v (ov_fieldAddr rfl rfl T_f82_1) rfl rfl rfl ?_
              refine oj_v (ov_loadn (cs := [(.int .i64 d.c.kind), (.int .i64 d.c.session), (.int .i64 d.c.seq), (.string (ba d.c.name)), (.int .i64 d.c.n)]) rfl rfl T_a24 (rds_pts (i := 1) rfl rfl)) rfl rfl rfl ?_
              refine oj_e (oe_call rfl rfl rfl Try.func42 rfl rfl (rest := [(pts b12 (.cells #[(.int .i64 d.kind), (.int .i64 d.c.kind), (.int .i64 d.c.session), (.int .i64 d.c.seq), (.string (ba d.c.name)), (.int .i64 d.c.n), (.int .u64 (d.token : Int))] 82 (0, 0))), (arg H 7 (some ⟨g10, o11, none⟩) ds.length (ds.flatMap encD)), F]) (lk_release b1 tk i mm d.c hinv.2.1 (by omega) hinv.2.2) (js := [0, 1, 2, 3]) ⟨by decide +kernel, rfl, rfl⟩) rfl rfl rfl (fun q24 => ?_)
              refine oj_eq (e' := [(56, (.slice q24.1 (((releaseM tk mm d.c).1).length) q24.2)), (55, (.agg #[(.int .i64 d.c.kind), (.int .i64 d.c.session), (.int .i64 d.c.seq), (.string (ba d.c.name)), (.int .i64 d.c.n)])), (54, (.pointer (some ⟨b12, 1, none⟩))), (53, (.pointer (some ⟨b1, 0, none⟩))), (51, (.bool (d.kind == 1))), (41, (.int .i64 d.kind)), (9, (.slice none 0 0)), (8, (.int .u64 (tk : Int))), (7, (.pointer (some ⟨b12, 0, none⟩))), (0, (.slice (some ⟨g10, o11, none⟩) ds.length c)), (5, (.pointer (some ⟨b1, 0, none⟩))), (6, (.int .i64 (i : Int)))]) (l' := [(sl 56 5 q24.1 (((releaseM tk mm d.c).1).length) q24.2 (((releaseM tk mm d.c).1).flatMap encR)), (LocksR ((releaseM tk mm d.c).2.2) ((releaseM tk mm d.c).2.1) b1), (pts b12 (.cells #[(.int .i64 d.kind), (.int .i64 d.c.kind), (.int .i64 d.c.session), (.int .i64 d.c.seq), (.string (ba d.c.name)), (.int .i64 d.c.n), (.int .u64 (d.token : Int))] 82 (0, 0))), (arg H 7 (some ⟨g10, o11, none⟩) ds.length (ds.flatMap encD)), F]) rfl rfl ?_
              obtain ⟨qa, qc⟩ := q24
              refine oj_eq (e' := [(56, (.slice qa (((releaseM tk mm d.c).1).length) qc)), (55, (.agg #[(.int .i64 d.c.kind), (.int .i64 d.c.session), (.int .i64 d.c.seq), (.string (ba d.c.name)), (.int .i64 d.c.n)])), (54, (.pointer (some ⟨b12, 1, none⟩))), (53, (.pointer (some ⟨b1, 0, none⟩))), (51, (.bool (d.kind == 1))), (41, (.int .i64 d.kind)), (9, (.slice none 0 0)), (8, (.int .u64 (tk : Int))), (7, (.pointer (some ⟨b12, 0, none⟩))), (0, (.slice (some ⟨g10, o11, none⟩) ds.length c)), (5, (.pointer (some ⟨b1, 0, none⟩))), (6, (.int .i64 (i : Int)))]) (l' := [(sl 56 5 qa (((releaseM tk mm d.c).1).length) qc (((releaseM tk mm d.c).1).flatMap encR)), (LocksR ((releaseM tk mm d.c).2.2) ((releaseM tk mm d.c).2.1) b1), (pts b12 (.cells #[(.int .i64 d.kind), (.int .i64 d.c.kind), (.int .i64 d.c.session), (.int .i64 d.c.seq), (.string (ba d.c.name)), (.int .i64 d.c.n), (.int .u64 (d.token : Int))] 82 (0, 0))), (arg H 7 (some ⟨g10, o11, none⟩) ds.length (ds.flatMap encD)), F]) rfl rfl ?_
              refine oj_v (ov_assign rfl rfl) rfl rfl rfl ?_
              refine oj_nil ?_
              refine xj_block_normal ?_
              exact xj_meet ⟨((releaseM tk mm d.c).2.1), ((releaseM tk mm d.c).2.2), ((releaseM tk mm d.c).1), qa, qc⟩  (EnvLe.cons rfl (EnvLe.cons rfl (EnvLe.cons rfl (EnvLe.cons rfl (EnvLe.cons rfl (EnvLe.nil _)))))) (fun h hs => Sat.fact_in ⟨good_release _ _ _, (releaseM_ok hinv.2.1).mono (by omega), tok_release hinv.2.2⟩ (sat_sub [3, 1, 0, 4] [2] (by decide +kernel) rfl rfl h hs))
            · have c25 : d.kind ≠ 1 := by simpa using h22
              refine cj_seq ?_
              refine cj_region ?_
              refine oj_v (ov_eql rfl rfl rfl) rfl rfl rfl ?_
              refine oj_v (ov_assign rfl rfl) rfl rfl rfl ?_
              refine oj_nil ?_
              refine xj_then ?_
              refine cj_weak (e' := [(57, (.bool (d.kind == 2))), (9, (.slice none 0 0)), (8, (.int .u64 (tk : Int))), (7, (.pointer (some ⟨b12, 0, none⟩))), (0, (.slice (some ⟨g10, o11, none⟩) ds.length c)), (5, (.pointer (some ⟨b1, 0, none⟩))), (6, (.int .i64 (i : Int)))]) (EnvLe.cons rfl (EnvLe.cons rfl (EnvLe.cons rfl (EnvLe.cons rfl (EnvLe.cons rfl (EnvLe.cons rfl (EnvLe.cons rfl (EnvLe.nil _)))))))) (fun _ h => h) ?_
              refine cj_cond (b := d.kind == 2) rfl (fun h26 => ?_) (fun h26 => ?_)
              · have c27 : d.kind = 2 := by simpa using h26
                refine cj_region ?_
                refine oj_v (ov_move rfl rfl) rfl rfl rfl ?_
                refine oj_v (ov_fieldAddr rfl rfl T_f82_1) rfl rfl rfl ?_
                refine oj_v (ov_fieldAddr rfl rfl T_f24_1) rfl rfl rfl ?_
                refine oj_v (ov_load1 (v := (.int .i64 d.c.session)) rfl rfl T_o3 (rd_pts (i := 1) rfl rfl)) rfl rfl rfl ?_
                refine oj_e (oe_call rfl rfl rfl Try.func43 rfl rfl (rest := [(pts b12 (.cells #[(.int .i64 d.kind), (.int .i64 d.c.kind), (.int .i64 d.c.session), (.int .i64 d.c.seq), (.string (ba d.c.name)), (.int .i64 d.c.n), (.int .u64 (d.token : Int))] 82 (0, 0))), (arg H 7 (some ⟨g10, o11, none⟩) ds.length (ds.flatMap encD)), F]) (lk_gone b1 tk i mm d.c.session hinv.2.1 (by omega) hinv.2.2) (js := [0, 1, 2, 3]) ⟨by decide +kernel, rfl, rfl⟩) rfl rfl rfl (fun q28 => ?_)
                refine oj_eq (e' := [(63, (.slice q28.1 (((goneM tk mm d.c.session).1).length) q28.2)), (62, (.int .i64 d.c.session)), (61, (.pointer (some ⟨b12, 2, none⟩))), (60, (.pointer (some ⟨b12, 1, none⟩))), (59, (.pointer (some ⟨b1, 0, none⟩))), (57, (.bool (d.kind == 2))), (9, (.slice none 0 0)), (8, (.int .u64 (tk : Int))), (7, (.pointer (some ⟨b12, 0, none⟩))), (0, (.slice (some ⟨g10, o11, none⟩) ds.length c)), (5, (.pointer (some ⟨b1, 0, none⟩))), (6, (.int .i64 (i : Int)))]) (l' := [(sl 56 5 q28.1 (((goneM tk mm d.c.session).1).length) q28.2 (((goneM tk mm d.c.session).1).flatMap encR)), (LocksR ((goneM tk mm d.c.session).2.2) ((goneM tk mm d.c.session).2.1) b1), (pts b12 (.cells #[(.int .i64 d.kind), (.int .i64 d.c.kind), (.int .i64 d.c.session), (.int .i64 d.c.seq), (.string (ba d.c.name)), (.int .i64 d.c.n), (.int .u64 (d.token : Int))] 82 (0, 0))), (arg H 7 (some ⟨g10, o11, none⟩) ds.length (ds.flatMap encD)), F]) rfl rfl ?_
                obtain ⟨qa, qc⟩ := q28
                refine oj_eq (e' := [(63, (.slice qa (((goneM tk mm d.c.session).1).length) qc)), (62, (.int .i64 d.c.session)), (61, (.pointer (some ⟨b12, 2, none⟩))), (60, (.pointer (some ⟨b12, 1, none⟩))), (59, (.pointer (some ⟨b1, 0, none⟩))), (57, (.bool (d.kind == 2))), (9, (.slice none 0 0)), (8, (.int .u64 (tk : Int))), (7, (.pointer (some ⟨b12, 0, none⟩))), (0, (.slice (some ⟨g10, o11, none⟩) ds.length c)), (5, (.pointer (some ⟨b1, 0, none⟩))), (6, (.int .i64 (i : Int)))]) (l' := [(sl 56 5 qa (((goneM tk mm d.c.session).1).length) qc (((goneM tk mm d.c.session).1).flatMap encR)), (LocksR ((goneM tk mm d.c.session).2.2) ((goneM tk mm d.c.session).2.1) b1), (pts b12 (.cells #[(.int .i64 d.kind), (.int .i64 d.c.kind), (.int .i64 d.c.session), (.int .i64 d.c.seq), (.string (ba d.c.name)), (.int .i64 d.c.n), (.int .u64 (d.token : Int))] 82 (0, 0))), (arg H 7 (some ⟨g10, o11, none⟩) ds.length (ds.flatMap encD)), F]) rfl rfl ?_
                refine oj_v (ov_assign rfl rfl) rfl rfl rfl ?_
                refine oj_nil ?_
                refine xj_block_normal ?_
                exact xj_meet ⟨((goneM tk mm d.c.session).2.1), ((goneM tk mm d.c.session).2.2), ((goneM tk mm d.c.session).1), qa, qc⟩  (EnvLe.cons rfl (EnvLe.cons rfl (EnvLe.cons rfl (EnvLe.cons rfl (EnvLe.cons rfl (EnvLe.nil _)))))) (fun h hs => Sat.fact_in ⟨good_gone _ _ _ _, (goneL_ok _ _ _ hinv.2.1).mono (by omega), tok_gone _ _ _ _ hinv.2.2⟩ (sat_sub [3, 1, 0, 4] [2] (by decide +kernel) rfl rfl h hs))
              · have c29 : d.kind ≠ 2 := by simpa using h26
                refine cj_skip ?_
                refine xj_block_normal ?_
                refine xj_sat (l' := [(sl 56 5 none 0 0 []), (LocksR mm tk b1), (pts b12 (.cells #[(.int .i64 d.kind), (.int .i64 d.c.kind), (.int .i64 d.c.session), (.int .i64 d.c.seq), (.string (ba d.c.name)), (.int .i64 d.c.n), (.int .u64 (d.token : Int))] 82 (0, 0))), (arg H 7 (some ⟨g10, o11, none⟩) ds.length (ds.flatMap encD)), F]) (fun _ h => Sat.sl_new h) ?_
                refine xj_eq (l' := [(sl 56 5 none (([] : List Rp).length) 0 (([] : List Rp).flatMap encR)), (LocksR mm tk b1), (pts b12 (.cells #[(.int .i64 d.kind), (.int .i64 d.c.kind), (.int .i64 d.c.session), (.int .i64 d.c.seq), (.string (ba d.c.name)), (.int .i64 d.c.n), (.int .u64 (d.token : Int))] 82 (0, 0))), (arg H 7 (some ⟨g10, o11, none⟩) ds.length (ds.flatMap encD)), F]) rfl (rfl) ?_
                exact xj_meet ⟨tk, mm, ([] : List Rp), none, 0⟩  (EnvLe.cons rfl (EnvLe.cons rfl (EnvLe.cons rfl (EnvLe.cons rfl (EnvLe.cons rfl (EnvLe.nil _)))))) (fun h hs => Sat.fact_in ⟨Good.nil _, hinv.2.1.mono (by omega), hinv.2.2⟩ (sat_sub [3, 1, 0, 4] [2] (by decide +kernel) rfl rfl h hs))
        · rintro ⟨tk2, mm2, rsx, oa, oc⟩
          refine cj_eq (e' := [(0, (.slice (some ⟨g10, o11, none⟩) ds.length c)), (5, (.pointer (some ⟨b1, 0, none⟩))), (6, (.int .i64 (i : Int))), (8, (.int .u64 (tk : Int))), (9, (.slice oa rsx.length oc))]) (l' := [(fact (Good tk tk2 rsx ∧ okM (i + 1) mm2 ∧ tk2 ≤ topTok)), (arg H 7 (some ⟨g10, o11, none⟩) ds.length (ds.flatMap encD)), (LocksR mm2 tk2 b1), (sl 56 5 oa rsx.length oc (rsx.flatMap encR)), F]) rfl rfl ?_
          refine cj_fact (sat_fact 0 rfl) (fun hmeet => ?_)
          refine cj_sat (l' := [(arg H 7 (some ⟨g10, o11, none⟩) ds.length (ds.flatMap encD)), (LocksR mm2 tk2 b1), (sl 56 5 oa rsx.length oc (rsx.flatMap encR)), F]) (sat_sub [1, 2, 3, 4] [0] (by decide +kernel) rfl rfl) ?_
          refine cj_fact (sat_know 2 rfl (fun h hs => sl_le hs)) (fun ⟨hcap, hcap_m⟩ => ?_)
          have hmx : maxLen = 9223372036854775807 := by decide
          refine cj_seq ?_
          refine cj_region ?_
          refine oj_v (ov_move rfl rfl) rfl rfl rfl ?_
          refine oj_e (oe_call rfl rfl rfl Try.func40 rfl rfl (rest := [(arg H 7 (some ⟨g10, o11, none⟩) ds.length (ds.flatMap encD)), (sl 56 5 oa rsx.length oc (rsx.flatMap encR)), F]) (lk_token b1 tk2 mm2) (js := [1, 0, 2, 3]) ⟨by decide +kernel, rfl, rfl⟩) rfl rfl rfl (fun _ => ?_)
          refine oj_eq (e' := [(65, (.int .u64 (tk2 : Int))), (64, (.pointer (some ⟨b1, 0, none⟩))), (0, (.slice (some ⟨g10, o11, none⟩) ds.length c)), (5, (.pointer (some ⟨b1, 0, none⟩))), (6, (.int .i64 (i : Int))), (8, (.int .u64 (tk : Int))), (9, (.slice oa rsx.length oc))]) (l' := [(LocksR mm2 tk2 b1), (arg H 7 (some ⟨g10, o11, none⟩) ds.length (ds.flatMap encD)), (sl 56 5 oa rsx.length oc (rsx.flatMap encR)), F]) rfl rfl ?_
          refine oj_v (ov_assign rfl rfl) rfl rfl rfl ?_
          refine oj_nil ?_
          refine xj_then ?_
          refine cj_seq ?_
          refine cj_seq ?_
          refine cj_region ?_
          refine oj_v (ov_move rfl rfl) rfl rfl rfl ?_
          refine oj_v (ov_move rfl rfl) rfl rfl rfl ?_
          refine oj_v (ov_lss rfl rfl rfl) rfl rfl rfl ?_
          refine oj_nil ?_
          refine xj_then ?_
          refine cj_weak (e' := [(68, (.bool (decide ((tk2 : Int) < (tk : Int))))), (10, (.int .u64 (tk2 : Int))), (0, (.slice (some ⟨g10, o11, none⟩) ds.length c)), (5, (.pointer (some ⟨b1, 0, none⟩))), (6, (.int .i64 (i : Int))), (8, (.int .u64 (tk : Int))), (9, (.slice oa rsx.length oc))]) (EnvLe.cons rfl (EnvLe.cons rfl (EnvLe.cons rfl (EnvLe.cons rfl (EnvLe.cons rfl (EnvLe.cons rfl (EnvLe.cons rfl (EnvLe.nil _)))))))) (fun _ h => h) ?_
          refine cj_cond (b := decide ((tk2 : Int) < (tk : Int))) rfl (fun h30 => ?_) (fun h30 => ?_)
          · have c31 : (tk2 : Int) < (tk : Int) := of_decide_eq_true h30
            exfalso; have hg1 := hmeet.1.1; simp only [Bool.and_eq_true, Bool.or_eq_true, decide_eq_true_eq, bne_iff_ne, ne_eq] at h30; omega
          · have c32 : ¬ ((tk2 : Int) < (tk : Int)) := of_decide_eq_false h30
            refine cj_skip ?_
            refine xj_then ?_
            refine cj_seq ?_
            refine cj_region ?_
            refine oj_v (ov_move rfl rfl) rfl rfl rfl ?_
            refine oj_v (ov_assign rfl rfl) rfl rfl rfl ?_
            refine oj_nil ?_
            refine xj_then ?_
            refine cj_seq ?_
            refine cj_seq ?_
            refine cj_region ?_
            refine oj_v (ov_assign rfl rfl) rfl rfl rfl ?_
            refine oj_nil ?_
            refine xj_then ?_
            refine cj_block ?_
            refine cj_loop (fun x : Nat => [(0, (.slice (some ⟨g10, o11, none⟩) ds.length c)), (5, (.pointer (some ⟨b1, 0, none⟩))), (6, (.int .i64 (i : Int))), (8, (.int .u64 (tk : Int))), (9, (.slice oa rsx.length oc)), (10, (.int .u64 (tk2 : Int))), (11, (.int .u64 (seenF tk (rsx.take x) : Int))), (12, (.int .i64 (x : Int)))]) (fun x : Nat => [(fact (x ≤ rsx.length)), (arg H 7 (some ⟨g10, o11, none⟩) ds.length (ds.flatMap encD)), (LocksR mm2 tk2 b1), (sl 56 5 oa rsx.length oc (rsx.flatMap encR)), F]) (fun x : Nat => rsx.length - x) 0 (EnvLe.cons rfl (EnvLe.cons rfl (EnvLe.cons rfl (EnvLe.cons rfl (EnvLe.cons rfl (EnvLe.cons rfl (EnvLe.cons rfl (EnvLe.cons rfl (EnvLe.nil _))))))))) (fun h hs => Sat.fact_in (Nat.zero_le _) (sat_sub [1, 0, 2, 3] [] (by decide +kernel) rfl rfl h hs)) ?_
            rintro kx
            refine cj_eq (e' := [(0, (.slice (some ⟨g10, o11, none⟩) ds.length c)), (5, (.pointer (some ⟨b1, 0, none⟩))), (6, (.int .i64 (i : Int))), (8, (.int .u64 (tk : Int))), (9, (.slice oa rsx.length oc)), (10, (.int .u64 (tk2 : Int))), (11, (.int .u64 (seenF tk (rsx.take kx) : Int))), (12, (.int .i64 (kx : Int)))]) (l' := [(fact (kx ≤ rsx.length)), (arg H 7 (some ⟨g10, o11, none⟩) ds.length (ds.flatMap encD)), (LocksR mm2 tk2 b1), (sl 56 5 oa rsx.length oc (rsx.flatMap encR)), F]) rfl rfl ?_
            refine cj_fact (sat_fact 0 rfl) (fun hinv => ?_)
            refine cj_sat (l' := [(arg H 7 (some ⟨g10, o11, none⟩) ds.length (ds.flatMap encD)), (LocksR mm2 tk2 b1), (sl 56 5 oa rsx.length oc (rsx.flatMap encR)), F]) (sat_sub [1, 2, 3, 4] [0] (by decide +kernel) rfl rfl) ?_
            refine cj_seq ?_
            refine cj_seq ?_
            refine cj_region ?_
            refine oj_v (ov_move rfl rfl) rfl rfl rfl ?_
            refine oj_v (ov_move rfl rfl) rfl rfl rfl ?_
            refine oj_v (ov_lenL rfl rfl rfl Try.underlying85) rfl rfl rfl ?_
            refine oj_v (ov_lss rfl rfl rfl) rfl rfl rfl ?_
            refine oj_nil ?_
            refine xj_then ?_
            refine cj_weak (e' := [(73, (.bool (decide ((kx : Int) < (rsx.length : Int))))), (0, (.slice (some ⟨g10, o11, none⟩) ds.length c)), (5, (.pointer (some ⟨b1, 0, none⟩))), (6, (.int .i64 (i : Int))), (8, (.int .u64 (tk : Int))), (9, (.slice oa rsx.length oc)), (10, (.int .u64 (tk2 : Int))), (11, (.int .u64 (seenF tk (rsx.take kx) : Int))), (12, (.int .i64 (kx : Int)))]) (EnvLe.cons rfl (EnvLe.cons rfl (EnvLe.cons rfl (EnvLe.cons rfl (EnvLe.cons rfl (EnvLe.cons rfl (EnvLe.cons rfl (EnvLe.cons rfl (EnvLe.cons rfl (EnvLe.nil _)))))))))) (fun _ h => h) ?_
            refine cj_cond (b := decide ((kx : Int) < (rsx.length : Int))) rfl (fun h33 => ?_) (fun h33 => ?_)
            · have c34 : (kx : Int) < (rsx.length : Int) := of_decide_eq_true h33
              refine cj_skip ?_
              refine xj_then ?_
              refine cj_seq ?_
              refine cj_block ?_
              refine cj_seq ?_
              obtain ⟨r, hr⟩ := at_lt (qs := rsx) (i := kx) (by omega)
              refine cj_fact (sat_know 2 rfl (fun h hs => sl_some hs (by omega))) (fun ⟨g35, hg35⟩ => ?_)
              subst hg35
              refine cj_region ?_
              refine oj_v (ov_move rfl rfl) rfl rfl rfl ?_
              refine oj_v (ov_move rfl rfl) rfl rfl rfl ?_
              refine oj_v (ov_indexAddr0 (j := kx) rfl rfl rfl Try.underlying85 T_s56 (by omega) (by omega)) rfl rfl rfl ?_
              refine oj_v (ov_fieldAddr rfl rfl T_f56_3) rfl rfl rfl ?_
              refine oj_v (ov_load1 (v := (.int .u64 (r.token : Int))) rfl rfl T_o54 (rd_el (i := 2) (j := kx) 3 encR_len rfl hr rfl)) rfl rfl rfl ?_
              refine oj_v (ov_assign rfl rfl) rfl rfl rfl ?_
              refine oj_nil ?_
              refine xj_then ?_
              refine cj_weak (e' := [(13, (.int .u64 (r.token : Int))), (0, (.slice (some ⟨g10, o11, none⟩) ds.length c)), (5, (.pointer (some ⟨b1, 0, none⟩))), (6, (.int .i64 (i : Int))), (8, (.int .u64 (tk : Int))), (9, (.slice (some ⟨g35, 0, none⟩) rsx.length oc)), (10, (.int .u64 (tk2 : Int))), (11, (.int .u64 (seenF tk (rsx.take kx) : Int))), (12, (.int .i64 (kx : Int)))]) (EnvLe.cons rfl (EnvLe.cons rfl (EnvLe.cons rfl (EnvLe.cons rfl (EnvLe.cons rfl (EnvLe.cons rfl (EnvLe.cons rfl (EnvLe.cons rfl (EnvLe.cons rfl (EnvLe.nil _)))))))))) (fun _ h => h) ?_
              refine cj_seq ?_
              refine cj_seq ?_
              refine cj_pass (e' := [(92, (.bool (((r.token : Int) != 0) && ((decide ((r.token : Int) < (seenF tk (rsx.take kx) : Int))) || (decide ((tk2 : Int) < (r.token : Int))))))), (13, (.int .u64 (r.token : Int))), (0, (.slice (some ⟨g10, o11, none⟩) ds.length c)), (5, (.pointer (some ⟨b1, 0, none⟩))), (6, (.int .i64 (i : Int))), (8, (.int .u64 (tk : Int))), (9, (.slice (some ⟨g35, 0, none⟩) rsx.length oc)), (10, (.int .u64 (tk2 : Int))), (11, (.int .u64 (seenF tk (rsx.take kx) : Int))), (12, (.int .i64 (kx : Int)))]) (l' := [(arg H 7 (some ⟨g10, o11, none⟩) ds.length (ds.flatMap encD)), (LocksR mm2 tk2 b1), (sl 56 5 (some ⟨g35, 0, none⟩) rsx.length oc (rsx.flatMap encR)), F]) ?_ ?_
              · refine cj_region ?_
                refine og_v (ov_move rfl rfl) rfl rfl rfl ?_
                refine og_v (ov_neq rfl rfl rfl) rfl rfl rfl ?_
                refine og_v (ov_move rfl rfl) rfl rfl rfl ?_
                refine oj_case (fun h36 => ?_) (fun h36 => ?_)
                · have c37 : (r.token : Int) ≠ 0 := by simpa using h36
                  refine og_v (ov_move rfl rfl) rfl rfl rfl ?_
                  refine og_v (ov_move rfl rfl) rfl rfl rfl ?_
                  refine og_v (ov_lss rfl rfl rfl) rfl rfl rfl ?_
                  refine og_v (ov_move rfl rfl) rfl rfl rfl ?_
                  refine oj_case (fun h38 => ?_) (fun h38 => ?_)
                  · have c39 : (r.token : Int) < (seenF tk (rsx.take kx) : Int) := of_decide_eq_true h38
                    refine og_skip rfl rfl rfl ?_
                    refine og_skip rfl rfl rfl ?_
                    refine og_skip rfl rfl rfl ?_
                    refine og_v (ov_pick rfl rfl rfl rfl) rfl rfl rfl ?_
                    refine og_v (ov_pick rfl rfl rfl rfl) rfl rfl rfl ?_
                    refine oj_nil ?_
                    exact xj_pass (EnvLe.cons (by first | (simp [look, h36, h38]; done) | (simp [look, h36, h38]; omega) | (simp [look, h36, h38]; intros; omega)) (EnvLe.cons rfl (EnvLe.cons rfl (EnvLe.cons rfl (EnvLe.cons rfl (EnvLe.cons rfl (EnvLe.cons rfl (EnvLe.cons rfl (EnvLe.cons rfl (EnvLe.cons rfl (EnvLe.nil _))))))))))) (fun _ h => h)
                  · have c40 : ¬ ((r.token : Int) < (seenF tk (rsx.take kx) : Int)) := of_decide_eq_false h38
                    refine og_v (ov_move rfl rfl) rfl rfl rfl ?_
                    refine og_v (ov_move rfl rfl) rfl rfl rfl ?_
                    refine og_v (ov_gtr rfl rfl rfl) rfl rfl rfl ?_
                    refine og_v (ov_pick rfl rfl rfl rfl) rfl rfl rfl ?_
                    refine og_v (ov_pick rfl rfl rfl rfl) rfl rfl rfl ?_
                    refine oj_nil ?_
                    exact xj_pass (EnvLe.cons (by first | (simp [look, h36, h38]; done) | (simp [look, h36, h38]; omega) | (simp [look, h36, h38]; intros; omega)) (EnvLe.cons rfl (EnvLe.cons rfl (EnvLe.cons rfl (EnvLe.cons rfl (EnvLe.cons rfl (EnvLe.cons rfl (EnvLe.cons rfl (EnvLe.cons rfl (EnvLe.cons rfl (EnvLe.nil _))))))))))) (fun _ h => h)
                · have c41 : (r.token : Int) = 0 := by simpa using h36
                  refine og_skip rfl rfl rfl ?_
                  refine og_skip rfl rfl rfl ?_
                  refine og_skip rfl rfl rfl ?_
                  refine og_skip rfl rfl rfl ?_
                  refine og_skip rfl rfl rfl ?_
                  refine og_skip rfl rfl rfl ?_
                  refine og_skip rfl rfl rfl ?_
                  refine og_skip rfl rfl rfl ?_
                  refine og_v (ov_pick rfl rfl rfl rfl) rfl rfl rfl ?_
                  refine oj_nil ?_
                  exact xj_pass (EnvLe.cons (by first | (simp [look, h36]; done) | (simp [look, h36]; omega) | (simp [look, h36]; intros; omega)) (EnvLe.cons rfl (EnvLe.cons rfl (EnvLe.cons rfl (EnvLe.cons rfl (EnvLe.cons rfl (EnvLe.cons rfl (EnvLe.cons rfl (EnvLe.cons rfl (EnvLe.cons rfl (EnvLe.nil _))))))))))) (fun _ h => h)
              · refine xj_then ?_
                refine cj_cond (b := ((r.token : Int) != 0) && ((decide ((r.token : Int) < (seenF tk (rsx.take kx) : Int))) || (decide ((tk2 : Int) < (r.token : Int))))) rfl (fun h42 => ?_) (fun h42 => ?_)
                · obtain ⟨h43, h44⟩ := Bool.and_eq_true_iff.1 h42
                  have c45 : (r.token : Int) ≠ 0 := by simpa using h43
                  have c46 := Bool.or_eq_true_iff.1 h44
                  exfalso; have hc := chain_at (s := tk) hmeet.1.2.1 hr; simp only [Bool.and_eq_true, Bool.or_eq_true, decide_eq_true_eq, bne_iff_ne, ne_eq] at h42; omega
                · have c47 := Bool.and_eq_false_iff.1 h42
                  refine cj_skip ?_
                  refine xj_then ?_
                  refine cj_region ?_
                  refine oj_v (ov_move rfl rfl) rfl rfl rfl ?_
                  refine oj_v (ov_move rfl rfl) rfl rfl rfl ?_
                  refine oj_v (ov_max rfl rfl rfl rfl) rfl rfl rfl ?_
                  refine oj_head (v' := (.int .u64 (seenF tk (rsx.take (kx + 1)) : Int))) (by rw [seen_take hr]; congr 1; split <;> omega) ?_
                  refine oj_v (ov_assign rfl rfl) rfl rfl rfl ?_
                  refine oj_nil ?_
                  refine xj_block_normal ?_
                  refine xj_then ?_
                  refine cj_weak (e' := [(11, (.int .u64 (seenF tk (rsx.take (kx + 1)) : Int))), (0, (.slice (some ⟨g10, o11, none⟩) ds.length c)), (5, (.pointer (some ⟨b1, 0, none⟩))), (6, (.int .i64 (i : Int))), (8, (.int .u64 (tk : Int))), (9, (.slice (some ⟨g35, 0, none⟩) rsx.length oc)), (10, (.int .u64 (tk2 : Int))), (12, (.int .i64 (kx : Int)))]) (EnvLe.cons rfl (EnvLe.cons rfl (EnvLe.cons rfl (EnvLe.cons rfl (EnvLe.cons rfl (EnvLe.cons rfl (EnvLe.cons rfl (EnvLe.cons rfl (EnvLe.nil _))))))))) (fun _ h => h) ?_
                  refine cj_region ?_
                  refine oj_v (ov_move rfl rfl) rfl rfl rfl ?_
                  refine oj_v (ov_add rfl rfl rfl (by omega)) rfl rfl rfl ?_
                  refine oj_v (ov_assign rfl rfl) rfl rfl rfl ?_
                  refine oj_nil ?_
                  exact xj_round (kx + 1) (by omega) (EnvLe.cons rfl (EnvLe.cons rfl (EnvLe.cons rfl (EnvLe.cons rfl (EnvLe.cons rfl (EnvLe.cons rfl (EnvLe.cons rfl (EnvLe.cons rfl (EnvLe.nil _))))))))) (fun h hs => Sat.fact_in (by omega) (sat_sub [0, 1, 2, 3] [] (by decide +kernel) rfl rfl h hs))
            · have c48 : ¬ ((kx : Int) < (rsx.length : Int)) := of_decide_eq_false h33
              refine cj_exit ?_
              refine xj_then_other (by simp) ?_
              refine xj_round_other (by simp) ?_
              refine xj_block_exit ?_
              refine xj_then ?_
              refine cj_weak (e' := [(0, (.slice (some ⟨g10, o11, none⟩) ds.length c)), (5, (.pointer (some ⟨b1, 0, none⟩))), (6, (.int .i64 (i : Int))), (8, (.int .u64 (tk : Int))), (10, (.int .u64 (tk2 : Int))), (11, (.int .u64 (seenF tk (rsx.take kx) : Int)))]) (EnvLe.cons rfl (EnvLe.cons rfl (EnvLe.cons rfl (EnvLe.cons rfl (EnvLe.cons rfl (EnvLe.cons rfl (EnvLe.nil _))))))) (fun _ h => h) ?_
              refine cj_seq ?_
              refine cj_pass (e' := [(103, (.bool ((decide ((tk : Int) < (tk2 : Int))) && ((seenF tk (rsx.take kx) : Int) != (tk2 : Int))))), (0, (.slice (some ⟨g10, o11, none⟩) ds.length c)), (5, (.pointer (some ⟨b1, 0, none⟩))), (6, (.int .i64 (i : Int)))]) (l' := [(arg H 7 (some ⟨g10, o11, none⟩) ds.length (ds.flatMap encD)), (LocksR mm2 tk2 b1), (sl 56 5 oa rsx.length oc (rsx.flatMap encR)), F]) ?_ ?_
              · refine cj_region ?_
                refine og_v (ov_move rfl rfl) rfl rfl rfl ?_
                refine og_v (ov_move rfl rfl) rfl rfl rfl ?_
                refine og_v (ov_gtr rfl rfl rfl) rfl rfl rfl ?_
                refine og_v (ov_move rfl rfl) rfl rfl rfl ?_
                refine oj_case (fun h49 => ?_) (fun h49 => ?_)
                · have c50 : (tk : Int) < (tk2 : Int) := of_decide_eq_true h49
                  refine og_v (ov_move rfl rfl) rfl rfl rfl ?_
                  refine og_v (ov_move rfl rfl) rfl rfl rfl ?_
                  refine og_v (ov_neq rfl rfl rfl) rfl rfl rfl ?_
                  refine og_v (ov_pick rfl rfl rfl rfl) rfl rfl rfl ?_
                  refine oj_nil ?_
                  exact xj_pass (EnvLe.cons (by first | (simp [look, h49]; done) | (simp [look, h49]; omega) | (simp [look, h49]; intros; omega)) (EnvLe.cons rfl (EnvLe.cons rfl (EnvLe.cons rfl (EnvLe.nil _))))) (fun _ h => h)
                · have c51 : ¬ ((tk : Int) < (tk2 : Int)) := of_decide_eq_false h49
                  refine og_skip rfl rfl rfl ?_
                  refine og_skip rfl rfl rfl ?_
                  refine og_skip rfl rfl rfl ?_
                  refine og_v (ov_pick rfl rfl rfl rfl) rfl rfl rfl ?_
                  refine oj_nil ?_
                  exact xj_pass (EnvLe.cons (by first | (simp [look, h49]; done) | (simp [look, h49]; omega) | (simp [look, h49]; intros; omega)) (EnvLe.cons rfl (EnvLe.cons rfl (EnvLe.cons rfl (EnvLe.nil _))))) (fun _ h => h)
              · refine xj_then ?_
                refine cj_cond (b := (decide ((tk : Int) < (tk2 : Int))) && ((seenF tk (rsx.take kx) : Int) != (tk2 : Int))) rfl (fun h52 => ?_) (fun h52 => ?_)
                · obtain ⟨h53, h54⟩ := Bool.and_eq_true_iff.1 h52
                  have c55 : (tk : Int) < (tk2 : Int) := of_decide_eq_true h53
                  have c56 : (seenF tk (rsx.take kx) : Int) ≠ (tk2 : Int) := by simpa using h54
                  exfalso; have hc := hmeet.1.2.2; rw [List.take_of_length_le (by omega)] at h52; simp only [Bool.and_eq_true, Bool.or_eq_true, decide_eq_true_eq, bne_iff_ne, ne_eq] at h52; omega
                · have c57 := Bool.and_eq_false_iff.1 h52
                  refine cj_skip ?_
                  refine xj_block_normal ?_
                  refine xj_then ?_
                  refine cj_region ?_
                  refine oj_v (ov_move rfl rfl) rfl rfl rfl ?_
                  refine oj_v (ov_add rfl rfl rfl (by omega)) rfl rfl rfl ?_
                  refine oj_v (ov_assign rfl rfl) rfl rfl rfl ?_
                  refine oj_nil ?_
                  exact xj_round ⟨(i + 1), tk2, mm2⟩ (by dsimp only; omega) (EnvLe.cons rfl (EnvLe.cons rfl (EnvLe.cons rfl (EnvLe.nil _)))) (fun h hs => Sat.fact_in ⟨by omega, hmeet.2.1, hmeet.2.2⟩ (sat_sub [0, 1, 3] [2] (by decide +kernel) rfl rfl h hs))
    · have c58 := Bool.and_eq_false_iff.1 h5
      refine cj_exit ?_
      refine xj_then_other (by simp) ?_
      refine xj_round_other (by simp) ?_
      refine xj_block_exit ?_
      refine xj_then ?_
      refine cj_weak (e' := []) (EnvLe.nil _) (fun _ h => h) ?_
      refine cj_seq ?_
      refine cj_region ?_
      refine oj_e (oe_call rfl rfl rfl Try.func44 rfl rfl (rest := [(arg H 7 a ds.length (ds.flatMap encD)), (LocksR mm tk b1), F]) lk_awake (js := [0, 1, 2]) ⟨by decide +kernel, rfl, rfl⟩) rfl rfl rfl (fun _ => ?_)
      refine oj_eq (e' := [(104, (.bool true))]) (l' := [(arg H 7 a ds.length (ds.flatMap encD)), (LocksR mm tk b1), F]) rfl rfl ?_
      refine oj_v (ov_assign rfl rfl) rfl rfl rfl ?_
      refine oj_nil ?_
      refine xj_then ?_
      refine cj_ret ?_
      refine xj_ret (vs := [(.bool true)]) () rfl rfl ?_
      exact sat_sub [0, 2] [1] (by decide +kernel) rfl rfl

end Go.Proofs.Ytbjdadekheoebaa
