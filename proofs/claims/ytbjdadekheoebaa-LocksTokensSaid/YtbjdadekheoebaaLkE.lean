/- The package locks: who holds. -/
import Derived.Test.YtbjdadekheoebaaLkD
set_option linter.all false
set_option linter.unusedVariables false
set_option linter.unusedSimpArgs false
set_option linter.unusedSectionVars false
set_option linter.unnecessarySimpa false
namespace Go.Proofs.Ytbjdadekheoebaa
open Go.RowKit Go.Lib

def holdM (m : Lks) (k : Nm) : List Int × Bool := match aget k m with
  | none => ([], false)
  | some x => (x.held, x.writer)
theorem hold_none {m : Lks} {k : Nm} (h : aget k m = none) : holdM m k = ([], false) := by unfold holdM; rw [h]
theorem hold_some {m : Lks} {k : Nm} {x : Lk} (h : aget k m = some x) : holdM m k = (x.held, x.writer) := by unfold holdM; rw [h]

set_option maxRecDepth 100000 in
set_option maxHeartbeats 8000000 in
theorem lk_holders (b tok n : Nat) (m : Lks) (kn : Nm) (hm : okM n m) (hn : n ≤ 1048576) : Spec Try.prog 49 [(.pointer (some ⟨b, 0, none⟩)), (.string (ba kn))] [(LocksR m tok b)] (fun x : Option Addr × Nat => .tuple #[.slice x.1 (holdM m kn).1.length x.2, .bool (holdM m kn).2]) (fun x : Option Addr × Nat => [sl 3 1 x.1 (holdM m kn).1.length x.2 ((holdM m kn).1.flatMap ei), LocksR m tok b]) := by
  refine spec_of (fn := Try.f49) Try.func49 rfl rfl rfl fun F s => ?_
  show CJ _ _ _ _ _ [(0, (.pointer (some ⟨b, 0, none⟩))), (1, (.string (ba kn)))] [(LocksR m tok b), F]
  refine cj_seq ?_
  refine cj_region ?_
  refine oj_v (ov_assign rfl rfl) rfl rfl rfl ?_
  refine oj_v (ov_assign rfl rfl) rfl rfl rfl ?_
  refine oj_nil ?_
  refine xj_then ?_
  refine cj_seq ?_
  refine cj_seq ?_
  refine cj_out (sat_open 0 rfl) (fun x1 => ?_)
  obtain ⟨mb, l⟩ := x1
  refine cj_eq (e' := [(5, (.bool false)), (4, (.slice none 0 0)), (0, (.pointer (some ⟨b, 0, none⟩))), (1, (.string (ba kn)))]) (l' := [(fact (l.map (fun e => (e.1, e.2.2)) = m)), (pts b (.cells #[(.map (some mb)), (.int .u64 (tok : Int))] 195 (0, 0))), (mp encS mb (l.map ptrE)), (all lockE l), F]) rfl rfl ?_
  refine cj_fact (sat_fact 0 rfl) (fun f2 => ?_)
  refine cj_sat (l' := [(pts b (.cells #[(.map (some mb)), (.int .u64 (tok : Int))] 195 (0, 0))), (mp encS mb (l.map ptrE)), (all lockE l), F]) (sat_sub [1, 2, 3, 4] [0] (by decide +kernel) rfl rfl) ?_
  have hrl := rising_l f2 hm.1
  have hll := len_l f2
  have hmx := hm.2.1
  rcases hget : aget kn m with _ | x0
  · obtain ⟨hnk, hnl⟩ := find_no f2 hget
    refine cj_pass (e' := [(16, (.bool true)), (5, (.bool false)), (4, (.slice none 0 0)), (0, (.pointer (some ⟨b, 0, none⟩))), (1, (.string (ba kn)))]) (l' := [(pts b (.cells #[(.map (some mb)), (.int .u64 (tok : Int))] 195 (0, 0))), (mp encS mb (l.map ptrE)), (all lockE l), F]) ?_ ?_
    · refine cj_region ?_
      refine og_v (ov_move rfl rfl) rfl rfl rfl ?_
      refine og_v (ov_peql rfl rfl rfl Try.underlying78) rfl rfl rfl ?_
      refine og_v (ov_move rfl rfl) rfl rfl rfl ?_
      refine og_v (ov_move rfl rfl) rfl rfl rfl ?_
      refine og_v (ov_nilCheck rfl rfl) rfl rfl rfl ?_
      refine og_v (ov_fieldAddr rfl rfl T_f195_0) rfl rfl rfl ?_
      refine og_v (ov_load1 (v := (.map (some mb))) rfl rfl T_o193 (rd_pts (i := 0) rfl rfl)) rfl rfl rfl ?_
      refine og_v (ov_move rfl rfl) rfl rfl rfl ?_
      refine og_v (ov_lookup (i := 1) (k := kn) (κ := encS) rfl rfl rfl Try.underlying193 Try.underlying9 T_z198 rfl) rfl rfl rfl ?_
      refine oj_head (v' := (.pointer none)) (by rw [hnk]; rfl) ?_
      refine og_v (ov_peql rfl rfl rfl Try.underlying198) rfl rfl rfl ?_
      refine og_v (ov_pick rfl rfl rfl rfl) rfl rfl rfl ?_
      refine oj_nil ?_
      exact xj_pass (EnvLe.cons rfl (EnvLe.cons rfl (EnvLe.cons rfl (EnvLe.cons rfl (EnvLe.cons rfl (EnvLe.nil _)))))) (fun _ h => h)
    · refine xj_then ?_
      refine cj_true rfl ?_
      refine cj_seq ?_
      refine cj_region ?_
      refine oj_v (ov_assign rfl rfl) rfl rfl rfl ?_
      refine oj_v (ov_assign rfl rfl) rfl rfl rfl ?_
      refine oj_nil ?_
      refine xj_then ?_
      refine cj_weak (e' := [(5, (.bool false)), (4, (.slice none 0 0)), (0, (.pointer (some ⟨b, 0, none⟩))), (1, (.string (ba kn)))]) (EnvLe.cons rfl (EnvLe.cons rfl (EnvLe.cons rfl (EnvLe.cons rfl (EnvLe.nil _))))) (fun _ h => h) ?_
      refine cj_ret ?_
      refine xj_then_other (by simp) ?_
      rw [hold_none hget]
      refine xj_ret (vs := [(.slice none 0 0), (.bool false)]) (none, 0) rfl rfl ?_
      exact fun h hs => (fun h hs => Sat.sl_new (locks_close f2 h hs)) h (sat_sub (l' := [(pts b (.cells #[(.map (some mb)), (.int .u64 (tok : Int))] 195 (0, 0))), (mp encS mb (l.map ptrE)), (all lockE l), F]) [0, 1, 2, 3] [] (by decide +kernel) rfl rfl h hs)
  · obtain ⟨p, hpl, hpk⟩ := find_yes f2 hget
    have hxo : okX n x0 := hm.get hget
    have hxl := hxo.2
    refine cj_sat (l' := [(LockR x0 p), (all lockE (adel kn l)), (pts b (.cells #[(.map (some mb)), (.int .u64 (tok : Int))] 195 (0, 0))), (mp encS mb (l.map ptrE)), F]) (fun h hs => (locks_take hrl hpl) h (sat_js (l' := [(all lockE l), (pts b (.cells #[(.map (some mb)), (.int .u64 (tok : Int))] 195 (0, 0))), (mp encS mb (l.map ptrE)), F]) [2, 0, 1, 3] (by decide +kernel) rfl rfl h hs)) ?_
    refine cj_pass (e' := [(16, (.bool false)), (5, (.bool false)), (4, (.slice none 0 0)), (0, (.pointer (some ⟨b, 0, none⟩))), (1, (.string (ba kn)))]) (l' := [(LockR x0 p), (all lockE (adel kn l)), (pts b (.cells #[(.map (some mb)), (.int .u64 (tok : Int))] 195 (0, 0))), (mp encS mb (l.map ptrE)), F]) ?_ ?_
    · refine cj_region ?_
      refine og_v (ov_move rfl rfl) rfl rfl rfl ?_
      refine og_v (ov_peql rfl rfl rfl Try.underlying78) rfl rfl rfl ?_
      refine og_v (ov_move rfl rfl) rfl rfl rfl ?_
      refine og_v (ov_move rfl rfl) rfl rfl rfl ?_
      refine og_v (ov_nilCheck rfl rfl) rfl rfl rfl ?_
      refine og_v (ov_fieldAddr rfl rfl T_f195_0) rfl rfl rfl ?_
      refine og_v (ov_load1 (v := (.map (some mb))) rfl rfl T_o193 (rd_pts (i := 2) rfl rfl)) rfl rfl rfl ?_
      refine og_v (ov_move rfl rfl) rfl rfl rfl ?_
      refine og_v (ov_lookup (i := 3) (k := kn) (κ := encS) rfl rfl rfl Try.underlying193 Try.underlying9 T_z198 rfl) rfl rfl rfl ?_
      refine oj_head (v' := (.pointer (some ⟨p, 0, none⟩))) (by rw [hpk]; rfl) ?_
      refine og_v (ov_peql rfl rfl rfl Try.underlying198) rfl rfl rfl ?_
      refine og_v (ov_pick rfl rfl rfl rfl) rfl rfl rfl ?_
      refine oj_nil ?_
      exact xj_pass (EnvLe.cons rfl (EnvLe.cons rfl (EnvLe.cons rfl (EnvLe.cons rfl (EnvLe.cons rfl (EnvLe.nil _)))))) (fun _ h => h)
    · refine xj_then ?_
      refine cj_false rfl ?_
      refine cj_skip ?_
      refine xj_then ?_
      refine cj_seq ?_
      refine cj_out (sat_open 0 rfl) (fun x3 => ?_)
      obtain ⟨ha, hc, wa, wc⟩ := x3
      refine cj_eq (e' := [(16, (.bool false)), (5, (.bool false)), (4, (.slice none 0 0)), (0, (.pointer (some ⟨b, 0, none⟩))), (1, (.string (ba kn)))]) (l' := [(pts p (.cells #[(.slice ha x0.held.length hc), (.bool x0.writer), (.slice wa x0.queue.length wc)] 202 (0, 0))), (sl 3 1 ha x0.held.length hc (x0.held.flatMap ei)), (sl 197 3 wa x0.queue.length wc (x0.queue.flatMap encW)), (all lockE (adel kn l)), (pts b (.cells #[(.map (some mb)), (.int .u64 (tok : Int))] 195 (0, 0))), (mp encS mb (l.map ptrE)), F]) rfl rfl ?_
      refine cj_sched [(pts p (.cells #[(.slice ha x0.held.length hc), (.bool x0.writer), (.slice wa x0.queue.length wc)] 202 (0, 0))), (pts b (.cells #[(.map (some mb)), (.int .u64 (tok : Int))] 195 (0, 0))), (mp encS mb (l.map ptrE))] [] [(0, true), (1, true), (2, true), (3, true), (4, true), (5, true), (6, true), (7, true), (8, true), (10, true), (11, true), (12, true), (13, true), (14, true), (15, true), (16, true), (17, true), (18, true), (9, false), (19, false), (20, false)] T_mixed (by decide +kernel) rfl ?_
      refine dj_eq (e' := [(16, (.bool false)), (5, (.bool false)), (4, (.slice none 0 0)), (0, (.pointer (some ⟨b, 0, none⟩))), (1, (.string (ba kn)))]) (l' := [(pts p (.cells #[(.slice ha x0.held.length hc), (.bool x0.writer), (.slice wa x0.queue.length wc)] 202 (0, 0))), (sl 3 1 ha x0.held.length hc (x0.held.flatMap ei)), (sl 197 3 wa x0.queue.length wc (x0.queue.flatMap encW)), (all lockE (adel kn l)), (pts b (.cells #[(.map (some mb)), (.int .u64 (tok : Int))] 195 (0, 0))), (mp encS mb (l.map ptrE)), F]) rfl rfl ?_
      refine dj_v (np_then np_body) (ov_move rfl rfl) rfl rfl rfl (sat_sub [0, 4, 5] [1, 2, 3, 6] (by decide +kernel) rfl rfl) ?_
      refine dj_v (np_then np_body) (ov_nilCheck rfl rfl) rfl rfl rfl (sat_sub [0, 4, 5] [1, 2, 3, 6] (by decide +kernel) rfl rfl) ?_
      refine dj_v (np_then np_body) (ov_fieldAddr rfl rfl T_f195_0) rfl rfl rfl (sat_sub [0, 4, 5] [1, 2, 3, 6] (by decide +kernel) rfl rfl) ?_
      refine dj_v (np_then np_body) (ov_load1 (v := (.map (some mb))) rfl rfl T_o193 (rd_pts (i := 1) rfl rfl)) rfl rfl rfl (sat_sub [0, 4, 5] [1, 2, 3, 6] (by decide +kernel) rfl rfl) ?_
      refine dj_v (np_then np_body) (ov_move rfl rfl) rfl rfl rfl (sat_sub [0, 4, 5] [1, 2, 3, 6] (by decide +kernel) rfl rfl) ?_
      refine dj_v (np_then np_body) (ov_lookup (i := 2) (k := kn) (κ := encS) rfl rfl rfl Try.underlying193 Try.underlying9 T_z198 rfl) rfl rfl rfl (sat_sub [0, 4, 5] [1, 2, 3, 6] (by decide +kernel) rfl rfl) ?_
      refine dj_head (v' := (.pointer (some ⟨p, 0, none⟩))) (by rw [hpk]; rfl) ?_
      refine dj_v (np_then np_body) (ov_nilCheck rfl rfl) rfl rfl rfl (sat_sub [0, 4, 5] [1, 2, 3, 6] (by decide +kernel) rfl rfl) ?_
      refine dj_v (np_then np_body) (ov_fieldAddr rfl rfl T_f202_0) rfl rfl rfl (sat_sub [0, 4, 5] [1, 2, 3, 6] (by decide +kernel) rfl rfl) ?_
      refine dj_v (np_then np_body) (ov_load1 (v := (.slice ha x0.held.length hc)) rfl rfl T_o72 (rd_pts (i := 0) rfl rfl)) rfl rfl rfl (sat_sub [0, 4, 5] [1, 2, 3, 6] (by decide +kernel) rfl rfl) ?_
      refine dj_v (np_then np_body) (ov_move rfl rfl) rfl rfl rfl (sat_sub [0, 4, 5] [1, 2, 3, 6] (by decide +kernel) rfl rfl) ?_
      refine dj_v (np_then np_body) (ov_nilCheck rfl rfl) rfl rfl rfl (sat_sub [0, 4, 5] [1, 2, 3, 6] (by decide +kernel) rfl rfl) ?_
      refine dj_v (np_then np_body) (ov_fieldAddr rfl rfl T_f195_0) rfl rfl rfl (sat_sub [0, 4, 5] [1, 2, 3, 6] (by decide +kernel) rfl rfl) ?_
      refine dj_v (np_then np_body) (ov_load1 (v := (.map (some mb))) rfl rfl T_o193 (rd_pts (i := 1) rfl rfl)) rfl rfl rfl (sat_sub [0, 4, 5] [1, 2, 3, 6] (by decide +kernel) rfl rfl) ?_
      refine dj_v (np_then np_body) (ov_move rfl rfl) rfl rfl rfl (sat_sub [0, 4, 5] [1, 2, 3, 6] (by decide +kernel) rfl rfl) ?_
      refine dj_v (np_then np_body) (ov_lookup (i := 2) (k := kn) (κ := encS) rfl rfl rfl Try.underlying193 Try.underlying9 T_z198 rfl) rfl rfl rfl (sat_sub [0, 4, 5] [1, 2, 3, 6] (by decide +kernel) rfl rfl) ?_
      refine dj_head (v' := (.pointer (some ⟨p, 0, none⟩))) (by rw [hpk]; rfl) ?_
      refine dj_v (np_then np_body) (ov_nilCheck rfl rfl) rfl rfl rfl (sat_sub [0, 4, 5] [1, 2, 3, 6] (by decide +kernel) rfl rfl) ?_
      refine dj_v (np_then np_body) (ov_fieldAddr rfl rfl T_f202_1) rfl rfl rfl (sat_sub [0, 4, 5] [1, 2, 3, 6] (by decide +kernel) rfl rfl) ?_
      refine dj_v (np_then np_body) (ov_load1 (v := (.bool x0.writer)) rfl rfl T_o4 (rd_pts (i := 0) rfl rfl)) rfl rfl rfl (sat_sub [0, 4, 5] [1, 2, 3, 6] (by decide +kernel) rfl rfl) ?_
      refine dj_e (oe_call rfl rfl rfl Try.func142 rfl rfl (rest := [(pts p (.cells #[(.slice ha x0.held.length hc), (.bool x0.writer), (.slice wa x0.queue.length wc)] 202 (0, 0))), (sl 197 3 wa x0.queue.length wc (x0.queue.flatMap encW)), (all lockE (adel kn l)), (pts b (.cells #[(.map (some mb)), (.int .u64 (tok : Int))] 195 (0, 0))), (mp encS mb (l.map ptrE)), F]) (lib_clone_int ha x0.held.length hc x0.held rfl (by omega)) (js := [1, 0, 2, 3, 4, 5, 6]) ⟨by decide +kernel, rfl, rfl⟩) rfl rfl rfl (.inr (fun q4 => sat_sub [2, 5, 6] [0, 1, 3, 4, 7] (by decide +kernel) rfl rfl)) (fun q4 => ?_)
      refine dj_eq (e' := [(26, (.slice q4.1 x0.held.length q4.2)), (35, (.bool x0.writer)), (34, (.pointer (some ⟨p, 1, none⟩))), (33, (.pointer (some ⟨p, 0, none⟩))), (32, (.pointer (some ⟨p, 0, none⟩))), (31, (.string (ba kn))), (30, (.map (some mb))), (29, (.pointer (some ⟨b, 0, none⟩))), (28, (.pointer (some ⟨b, 0, none⟩))), (27, (.pointer (some ⟨b, 0, none⟩))), (25, (.slice ha x0.held.length hc)), (24, (.pointer (some ⟨p, 0, none⟩))), (23, (.pointer (some ⟨p, 0, none⟩))), (22, (.pointer (some ⟨p, 0, none⟩))), (21, (.string (ba kn))), (20, (.map (some mb))), (19, (.pointer (some ⟨b, 0, none⟩))), (18, (.pointer (some ⟨b, 0, none⟩))), (17, (.pointer (some ⟨b, 0, none⟩))), (16, (.bool false)), (5, (.bool false)), (4, (.slice none 0 0)), (0, (.pointer (some ⟨b, 0, none⟩))), (1, (.string (ba kn)))]) (l' := [(sl 3 1 q4.1 x0.held.length q4.2 (x0.held.flatMap ei)), (sl 3 1 ha x0.held.length hc (x0.held.flatMap ei)), (pts p (.cells #[(.slice ha x0.held.length hc), (.bool x0.writer), (.slice wa x0.queue.length wc)] 202 (0, 0))), (sl 197 3 wa x0.queue.length wc (x0.queue.flatMap encW)), (all lockE (adel kn l)), (pts b (.cells #[(.map (some mb)), (.int .u64 (tok : Int))] 195 (0, 0))), (mp encS mb (l.map ptrE)), F]) rfl rfl ?_
      obtain ⟨qa, qc⟩ := q4
      refine dj_eq (e' := [(26, (.slice qa x0.held.length qc)), (35, (.bool x0.writer)), (34, (.pointer (some ⟨p, 1, none⟩))), (33, (.pointer (some ⟨p, 0, none⟩))), (32, (.pointer (some ⟨p, 0, none⟩))), (31, (.string (ba kn))), (30, (.map (some mb))), (29, (.pointer (some ⟨b, 0, none⟩))), (28, (.pointer (some ⟨b, 0, none⟩))), (27, (.pointer (some ⟨b, 0, none⟩))), (25, (.slice ha x0.held.length hc)), (24, (.pointer (some ⟨p, 0, none⟩))), (23, (.pointer (some ⟨p, 0, none⟩))), (22, (.pointer (some ⟨p, 0, none⟩))), (21, (.string (ba kn))), (20, (.map (some mb))), (19, (.pointer (some ⟨b, 0, none⟩))), (18, (.pointer (some ⟨b, 0, none⟩))), (17, (.pointer (some ⟨b, 0, none⟩))), (16, (.bool false)), (5, (.bool false)), (4, (.slice none 0 0)), (0, (.pointer (some ⟨b, 0, none⟩))), (1, (.string (ba kn)))]) (l' := [(sl 3 1 qa x0.held.length qc (x0.held.flatMap ei)), (sl 3 1 ha x0.held.length hc (x0.held.flatMap ei)), (pts p (.cells #[(.slice ha x0.held.length hc), (.bool x0.writer), (.slice wa x0.queue.length wc)] 202 (0, 0))), (sl 197 3 wa x0.queue.length wc (x0.queue.flatMap encW)), (all lockE (adel kn l)), (pts b (.cells #[(.map (some mb)), (.int .u64 (tok : Int))] 195 (0, 0))), (mp encS mb (l.map ptrE)), F]) rfl rfl ?_
      refine dj_e (oe_of_v (ov_assign rfl rfl)) rfl rfl rfl (.inr (fun _ => sat_sub [2, 5, 6] [0, 1, 3, 4, 7] (by decide +kernel) rfl rfl)) (fun _ => ?_)
      refine dj_e (oe_of_v (ov_assign rfl rfl)) rfl rfl rfl (.inr (fun _ => sat_sub [2, 5, 6] [0, 1, 3, 4, 7] (by decide +kernel) rfl rfl)) (fun _ => ?_)
      refine dj_nil ?_
      refine xj_then ?_
      refine cj_weak (e' := [(5, (.bool x0.writer)), (4, (.slice qa x0.held.length qc))]) (EnvLe.cons rfl (EnvLe.cons rfl (EnvLe.nil _))) (fun _ h => h) ?_
      refine cj_ret ?_
      refine xj_sat (l' := [(LockR x0 p), (sl 3 1 qa x0.held.length qc (x0.held.flatMap ei)), (all lockE (adel kn l)), (pts b (.cells #[(.map (some mb)), (.int .u64 (tok : Int))] 195 (0, 0))), (mp encS mb (l.map ptrE)), F]) (sat_close (r := [(sl 3 1 qa x0.held.length qc (x0.held.flatMap ei)), (all lockE (adel kn l)), (pts b (.cells #[(.map (some mb)), (.int .u64 (tok : Int))] 195 (0, 0))), (mp encS mb (l.map ptrE)), F]) ⟨ha, hc, wa, wc⟩ [2, 1, 3, 0, 4, 5, 6, 7] (by decide +kernel) rfl rfl rfl) ?_
      rw [hold_some hget]
      refine xj_ret (vs := [(.slice qa x0.held.length qc), (.bool x0.writer)]) (qa, qc) rfl rfl ?_
      exact fun h hs => (fun h hs => Sat.tail_mono (locks_back f2 hrl hpl) hs) h (sat_sub (l' := [(sl 3 1 qa x0.held.length qc (x0.held.flatMap ei)), (pts b (.cells #[(.map (some mb)), (.int .u64 (tok : Int))] 195 (0, 0))), (mp encS mb (l.map ptrE)), (LockR x0 p), (all lockE (adel kn l)), F]) [1, 3, 4, 0, 2, 5] [] (by decide +kernel) rfl rfl h hs)

set_option maxRecDepth 100000 in
set_option maxHeartbeats 8000000 in
theorem lk_cmd (kd ss : Int) : Spec Try.prog 133 [(.int .i64 kd), (.int .i64 ss)] [] (fun x : Unit => (.agg #[(.int .i64 ((Cm.mk kd ss 1 [97] 0).kind)), (.int .i64 ((Cm.mk kd ss 1 [97] 0).session)), (.int .i64 ((Cm.mk kd ss 1 [97] 0).seq)), (.string (ba (Cm.mk kd ss 1 [97] 0).name)), (.int .i64 ((Cm.mk kd ss 1 [97] 0).n))])) (fun x : Unit => []) := by
  refine spec_of (fn := Try.f133) Try.func133 rfl rfl rfl fun F s => ?_
  show CJ _ _ _ _ _ [(0, (.int .i64 kd)), (1, (.int .i64 ss))] [F]
  refine cj_seq ?_
  refine cj_region ?_
  refine oj_e (oe_alloc rfl T_z24) rfl rfl rfl (fun b1 => ?_)
  refine oj_eq (e' := [(4, (.pointer (some ⟨b1, 0, none⟩))), (0, (.int .i64 kd)), (1, (.int .i64 ss))]) (l' := [(pts b1 (.cells #[(.int .i64 0), (.int .i64 0), (.int .i64 0), (.string .empty), (.int .i64 0)] 24 (0, 0))), F]) rfl rfl ?_
  refine oj_nil ?_
  refine xj_then ?_
  refine cj_seq ?_
  refine cj_region ?_
  refine oj_v (ov_move rfl rfl) rfl rfl rfl ?_
  refine oj_v (ov_move rfl rfl) rfl rfl rfl ?_
  refine oj_v (ov_build (cells := #[(.int .i64 kd), (.int .i64 ss), (.int .i64 1), (.string (ByteArray.mk #[97])), (.int .i64 0)]) rfl T_z24 T_p24 rfl rfl) rfl rfl rfl ?_
  refine oj_e0 (oe_storen (i := 0) rfl rfl rfl T_a24 rfl rfl (by simp [Value.oneCell'])) rfl rfl (fun _ => ?_)
  refine oj_eq (e' := [(7, (.agg #[(.int .i64 kd), (.int .i64 ss), (.int .i64 1), (.string (ByteArray.mk #[97])), (.int .i64 0)])), (6, (.int .i64 ss)), (5, (.int .i64 kd)), (4, (.pointer (some ⟨b1, 0, none⟩))), (0, (.int .i64 kd)), (1, (.int .i64 ss))]) (l' := [(pts b1 (.cells #[(.int .i64 kd), (.int .i64 ss), (.int .i64 1), (.string (ByteArray.mk #[97])), (.int .i64 0)] 24 (0, 0))), F]) rfl rfl ?_
  refine oj_nil ?_
  refine xj_then ?_
  refine cj_weak (e' := [(4, (.pointer (some ⟨b1, 0, none⟩)))]) (EnvLe.cons rfl (EnvLe.nil _)) (fun _ h => h) ?_
  refine cj_ret ?_
  refine xj_retV (vs := [(.agg #[(.int .i64 kd), (.int .i64 ss), (.int .i64 1), (.string (ByteArray.mk #[97])), (.int .i64 0)])]) () (.cons (res_cells (cs := [(.int .i64 kd), (.int .i64 ss), (.int .i64 1), (.string (ByteArray.mk #[97])), (.int .i64 0)]) rfl T_a24 (rds_pts (i := 0) rfl rfl)) .nil) rfl ?_
  exact sat_sub [1] [0] (by decide +kernel) rfl rfl

end Go.Proofs.Ytbjdadekheoebaa
