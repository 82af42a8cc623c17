/- The package locks: who waits is served. -/
import Derived.Test.YtbjdadekheoebaaLkA
set_option linter.all false
set_option linter.unusedVariables false
set_option linter.unusedSimpArgs false
set_option linter.unusedSectionVars false
set_option linter.unnecessarySimpa false
namespace Go.Proofs.Ytbjdadekheoebaa
open Go.RowKit Go.Lib

def ServeInv (n tok : Nat) (lx : Lk) (out : List Rp) (tk : Nat) (hd : List Int) (wr : Bool) (qu : List Wt) : Prop :=
  serveX tok lx = (out ++ (serveQ tk hd wr qu).1, (serveQ tk hd wr qu).2) ∧ hd.Pairwise (· ≤ ·) ∧ hd.length + qu.length ≤ n ∧ out.length + qu.length ≤ n ∧ tk ≤ topTok
theorem serve_start {n tok : Nat} {lx : Lk} (h : okX n lx) (ht : tok ≤ topTok) : ServeInv n tok lx [] tok lx.held lx.writer lx.queue := ⟨rfl, h.1, h.2, by have := h.2; simp only [List.length_nil]; omega, ht⟩
theorem grantX_shape (tk : Nat) (hd : List Int) (wr : Bool) (qr : List Wt) (w : Wt) : ∃ a b, grantX tk ⟨hd, wr, qr⟩ w = ⟨a, b, qr⟩ := by
  unfold grantX; split
  · exact ⟨hd, wr, rfl⟩
  · exact ⟨_, _, rfl⟩
theorem serve_step {n tok tk : Nat} {lx : Lk} {out : List Rp} {hd a : List Int} {wr b : Bool} {qu qr : List Wt} {w : Wt} (h : ServeInv n tok lx out tk hd wr qu) (hq : qu = w :: qr) (hb : blocked ⟨hd, wr, w :: qr⟩ w = false) (hg : grantX tk ⟨hd, wr, qr⟩ w = ⟨a, b, qr⟩) :
    ServeInv n tok lx (out ++ [grantR tk w]) (grantT tk w) a b qr := by
  obtain ⟨h1, h2, h3, h4, h5⟩ := h
  subst hq
  have hok : okX (hd.length + qr.length) ⟨hd, wr, qr⟩ := ⟨h2, Nat.le_refl _⟩
  have hx := grantX_ok (tok := tk) (w := w) hok
  rw [hg] at hx
  simp only [List.length_cons] at h3 h4
  refine ⟨?_, hx.1, ?_, ?_, grantT_le h5⟩
  · rw [h1]
    simp only [serveQ, hb, Bool.false_eq_true, if_false, hg, List.append_assoc, List.singleton_append]
  · have := hx.2; simp only at this; omega
  · simp only [List.length_append, List.length_singleton]; omega
theorem serve_stop0 {n tok tk : Nat} {lx : Lk} {out : List Rp} {hd : List Int} {wr : Bool} {qu : List Wt} (h : ServeInv n tok lx out tk hd wr qu) (hq : ¬ ((0 : Int) < (qu.length : Int))) : serveX tok lx = (out, tk, ⟨hd, wr, qu⟩) := by
  have : qu = [] := List.length_eq_zero_iff.1 (by omega)
  subst this; rw [h.1]; simp [serveQ]
theorem serve_stop1 {n tok tk : Nat} {lx : Lk} {out : List Rp} {hd : List Int} {wr : Bool} {qu qr : List Wt} {w : Wt} (h : ServeInv n tok lx out tk hd wr qu) (hq : qu = w :: qr) (hb : blocked ⟨hd, wr, w :: qr⟩ w = true) : serveX tok lx = (out, tk, ⟨hd, wr, qu⟩) := by
  subst hq; rw [h.1]; simp [serveQ, hb]
theorem rs_tail {τ : Type} {enc : τ → List Value} {k E c : Nat} (hk : ∀ x, (enc x).length = k) {a : Option Addr} {qs qr : List τ} {w : τ} (hq : qs = w :: qr) : ∀ h, sl E k a qs.length c (qs.flatMap enc) h → rs k (cutAt a c 1 k) (qs.length - 1) (qr.flatMap enc) h := fun h hs => by
  have h1 := rs_cut (i := 1) (j := qs.length) (by subst hq; simp) (Nat.le_refl _) h hs
  have e1 : ((qs.flatMap enc).drop (1 * k)).take ((qs.length - 1) * k) = qr.flatMap enc := by
    rw [drop_flat hk]; subst hq
    simp only [List.drop_succ_cons, List.drop_zero, List.length_cons, Nat.add_sub_cancel]
    exact List.take_of_length_le (by rw [flat_len hk]; exact Nat.le_refl _)
  rwa [e1] at h1
theorem grantR_flat {out : List Rp} {r : Rp} : out.flatMap encR ++ [.int .i64 r.session, .int .i64 r.seq, .int .i64 r.err, .int .u64 (r.token : Int), .int .i64 r.n] = (out ++ [r]).flatMap encR := by simp [encR]

set_option maxRecDepth 100000 in
set_option maxHeartbeats 8000000 in
theorem lk_serve (b p mb tok n : Nat) (kn : Nm) (M : List (Nm × Value)) (lx : Lk) (hk : aget kn M = some (.pointer (some ⟨p, 0, none⟩))) (hx : okX n lx) (hn : n ≤ 536870912) (ht : tok ≤ topTok) : Spec Try.prog 128 [(.pointer (some ⟨b, 0, none⟩)), (.string (ba kn))] [(pts b (.cells #[(.map (some mb)), (.int .u64 (tok : Int))] 195 (0, 0))), (mp encS mb M), (LockR lx p)] (fun x : Option Addr × Nat => .slice x.1 (serveX tok lx).1.length x.2) (fun x : Option Addr × Nat => [pts b (.cells #[.map (some mb), .int .u64 ((serveX tok lx).2.1 : Int)] 195 (0, 0)), mp encS mb (if (serveX tok lx).2.2.held = [] then adel kn M else M), sl 56 5 x.1 (serveX tok lx).1.length x.2 ((serveX tok lx).1.flatMap encR), LockR (serveX tok lx).2.2 p]) := by
  refine spec_of (fn := Try.f128) Try.func128 rfl rfl rfl fun F s => ?_
  show CJ _ _ _ _ _ [(0, (.pointer (some ⟨b, 0, none⟩))), (1, (.string (ba kn)))] [(pts b (.cells #[(.map (some mb)), (.int .u64 (tok : Int))] 195 (0, 0))), (mp encS mb M), (LockR lx p), F]
  refine cj_seq ?_
  refine cj_eq (l' := [(pts b (.cells #[(.map (some mb)), (.int .u64 (tok : Int))] 195 (0, 0))), (mp encS mb M), (LockR (Lk.mk lx.held lx.writer lx.queue) p), F]) rfl (rfl) ?_
  refine cj_region ?_
  refine oj_v (ov_assign rfl rfl) rfl rfl rfl ?_
  refine oj_nil ?_
  refine xj_then ?_
  refine cj_seq ?_
  refine cj_region ?_
  refine oj_v (ov_move rfl rfl) rfl rfl rfl ?_
  refine oj_v (ov_nilCheck rfl rfl) rfl rfl rfl ?_
  refine oj_v (ov_fieldAddr rfl rfl T_f195_0) rfl rfl rfl ?_
  refine oj_v (ov_load1 (v := (.map (some mb))) rfl rfl T_o193 (rd_pts (i := 0) rfl rfl)) rfl rfl rfl ?_
  refine oj_v (ov_move rfl rfl) rfl rfl rfl ?_
  refine oj_v (ov_lookup (i := 1) (k := kn) (κ := encS) rfl rfl rfl Try.underlying193 Try.underlying9 T_z198 rfl) rfl rfl rfl ?_
  refine oj_head (v' := (.pointer (some ⟨p, 0, none⟩))) (by rw [hk]; rfl) ?_
  refine oj_v (ov_assign rfl rfl) rfl rfl rfl ?_
  refine oj_nil ?_
  refine xj_then ?_
  refine cj_weak (e' := [(5, (.pointer (some ⟨p, 0, none⟩))), (4, (.slice none 0 0)), (0, (.pointer (some ⟨b, 0, none⟩))), (1, (.string (ba kn)))]) (EnvLe.cons rfl (EnvLe.cons rfl (EnvLe.cons rfl (EnvLe.cons rfl (EnvLe.nil _))))) (fun _ h => h) ?_
  refine cj_seq ?_
  refine cj_region ?_
  refine oj_v (ov_assign rfl rfl) rfl rfl rfl ?_
  refine oj_nil ?_
  refine xj_then ?_
  refine cj_seq ?_
  refine cj_block ?_
  refine cj_sat (l' := [(sl 56 5 none 0 0 []), (pts b (.cells #[(.map (some mb)), (.int .u64 (tok : Int))] 195 (0, 0))), (mp encS mb M), (LockR (Lk.mk lx.held lx.writer lx.queue) p), F]) (fun _ h => Sat.sl_new h) ?_
  refine cj_eq (l' := [(sl 56 5 none (([] : List Rp).length) 0 (([] : List Rp).flatMap encR)), (pts b (.cells #[(.map (some mb)), (.int .u64 (tok : Int))] 195 (0, 0))), (mp encS mb M), (LockR (Lk.mk lx.held lx.writer lx.queue) p), F]) rfl (rfl) ?_
  refine cj_loop (fun x : (List Rp) × Nat × (List Int) × Bool × (List Wt) × (Option Addr) × Nat => [(0, (.pointer (some ⟨b, 0, none⟩))), (1, (.string (ba kn))), (5, (.pointer (some ⟨p, 0, none⟩))), (6, (.slice x.2.2.2.2.2.1 x.1.length x.2.2.2.2.2.2))]) (fun x : (List Rp) × Nat × (List Int) × Bool × (List Wt) × (Option Addr) × Nat => [(fact (ServeInv n tok lx x.1 x.2.1 x.2.2.1 x.2.2.2.1 x.2.2.2.2.1)), (pts b (.cells #[(.map (some mb)), (.int .u64 (x.2.1 : Int))] 195 (0, 0))), (mp encS mb M), (LockR (Lk.mk x.2.2.1 x.2.2.2.1 x.2.2.2.2.1) p), (sl 56 5 x.2.2.2.2.2.1 x.1.length x.2.2.2.2.2.2 (x.1.flatMap encR)), F]) (fun x : (List Rp) × Nat × (List Int) × Bool × (List Wt) × (Option Addr) × Nat => x.2.2.2.2.1.length) ⟨([] : List Rp), tok, lx.held, lx.writer, lx.queue, none, 0⟩ (EnvLe.cons rfl (EnvLe.cons rfl (EnvLe.cons rfl (EnvLe.cons rfl (EnvLe.nil _))))) (fun h hs => Sat.fact_in (serve_start hx ht) (sat_sub [1, 2, 3, 0, 4] [] (by decide +kernel) rfl rfl h hs)) ?_
  rintro ⟨outx, tk, hd, wr, qu, oa, oc⟩
  refine cj_eq (e' := [(0, (.pointer (some ⟨b, 0, none⟩))), (1, (.string (ba kn))), (5, (.pointer (some ⟨p, 0, none⟩))), (6, (.slice oa outx.length oc))]) (l' := [(fact (ServeInv n tok lx outx tk hd wr qu)), (pts b (.cells #[(.map (some mb)), (.int .u64 (tk : Int))] 195 (0, 0))), (mp encS mb M), (LockR (Lk.mk hd wr qu) p), (sl 56 5 oa outx.length oc (outx.flatMap encR)), F]) rfl rfl ?_
  refine cj_fact (sat_fact 0 rfl) (fun hinv => ?_)
  refine cj_sat (l' := [(pts b (.cells #[(.map (some mb)), (.int .u64 (tk : Int))] 195 (0, 0))), (mp encS mb M), (LockR (Lk.mk hd wr qu) p), (sl 56 5 oa outx.length oc (outx.flatMap encR)), F]) (sat_sub [1, 2, 3, 4, 5] [0] (by decide +kernel) rfl rfl) ?_
  have hi2 := hinv.2.2.1
  have hi3 := hinv.2.2.2.1
  have hi4 : tk ≤ 18446744073709551615 := hinv.2.2.2.2
  refine cj_seq ?_
  refine cj_seq ?_
  refine cj_out (sat_open 2 rfl) (fun x1 => ?_)
  obtain ⟨ha, hc, wa, wc⟩ := x1
  refine cj_eq (e' := [(0, (.pointer (some ⟨b, 0, none⟩))), (1, (.string (ba kn))), (5, (.pointer (some ⟨p, 0, none⟩))), (6, (.slice oa outx.length oc))]) (l' := [(pts p (.cells #[(.slice ha hd.length hc), (.bool wr), (.slice wa qu.length wc)] 202 (0, 0))), (sl 3 1 ha hd.length hc (hd.flatMap ei)), (sl 197 3 wa qu.length wc (qu.flatMap encW)), (pts b (.cells #[(.map (some mb)), (.int .u64 (tk : Int))] 195 (0, 0))), (mp encS mb M), (sl 56 5 oa outx.length oc (outx.flatMap encR)), F]) rfl rfl ?_
  refine cj_region ?_
  refine oj_v (ov_move rfl rfl) rfl rfl rfl ?_
  refine oj_v (ov_nilCheck rfl rfl) rfl rfl rfl ?_
  refine oj_v (ov_fieldAddr rfl rfl T_f202_2) rfl rfl rfl ?_
  refine oj_v (ov_load1 (v := (.slice wa qu.length wc)) rfl rfl T_o200 (rd_pts (i := 0) rfl rfl)) rfl rfl rfl ?_
  refine oj_v (ov_lenL rfl rfl rfl Try.underlying200) rfl rfl rfl ?_
  refine oj_v (ov_gtr rfl rfl rfl) rfl rfl rfl ?_
  refine oj_nil ?_
  refine xj_then ?_
  refine cj_weak (e' := [(19, (.bool (decide (0 < (qu.length : Int))))), (0, (.pointer (some ⟨b, 0, none⟩))), (1, (.string (ba kn))), (5, (.pointer (some ⟨p, 0, none⟩))), (6, (.slice oa outx.length oc))]) (EnvLe.cons rfl (EnvLe.cons rfl (EnvLe.cons rfl (EnvLe.cons rfl (EnvLe.cons rfl (EnvLe.nil _)))))) (fun _ h => h) ?_
  refine cj_cond (b := decide (0 < (qu.length : Int))) rfl (fun h2 => ?_) (fun h2 => ?_)
  · have c3 : 0 < (qu.length : Int) := of_decide_eq_true h2
    refine cj_skip ?_
    refine xj_then ?_
    refine cj_block ?_
    refine cj_seq ?_
    obtain ⟨w1, qr, hq⟩ : ∃ w1 qr, qu = w1 :: qr := by cases qu with | nil => exact absurd c3 (by simp) | cons a b => exact ⟨a, b, rfl⟩
    have hx0 : qu[0]? = some w1 := by rw [hq]; rfl
    have hqr : qr.length + 1 = qu.length := by rw [hq]; rfl
    refine cj_fact (sat_know 2 rfl (fun h hs => sl_some hs (by omega))) (fun ⟨g4, hg4⟩ => ?_)
    subst hg4
    refine cj_fact (sat_know 2 rfl (fun h hs => sl_le hs)) (fun ⟨hcap, hcap_m⟩ => ?_)
    refine cj_region ?_
    refine oj_v (ov_move rfl rfl) rfl rfl rfl ?_
    refine oj_v (ov_nilCheck rfl rfl) rfl rfl rfl ?_
    refine oj_v (ov_fieldAddr rfl rfl T_f202_2) rfl rfl rfl ?_
    refine oj_v (ov_load1 (v := (.slice (some ⟨g4, 0, none⟩) qu.length wc)) rfl rfl T_o200 (rd_pts (i := 0) rfl rfl)) rfl rfl rfl ?_
    refine oj_v (ov_indexAddr0 (j := 0) rfl rfl rfl Try.underlying200 T_s197 (by omega) (by omega)) rfl rfl rfl ?_
    refine oj_v (ov_loadn (cs := [(.int .i64 w1.session), (.int .i64 w1.seq), (.bool w1.reader)]) rfl rfl T_a197 (rds_el (i := 2) (j := 0) 0 encW_len rfl hx0 rfl)) rfl rfl rfl ?_
    refine oj_e (oe_alloc rfl T_z197) rfl rfl rfl (fun b5 => ?_)
    refine oj_eq (e' := [(7, (.pointer (some ⟨b5, 0, none⟩))), (25, (.agg #[(.int .i64 w1.session), (.int .i64 w1.seq), (.bool w1.reader)])), (24, (.pointer (some ⟨g4, (0 * 3), none⟩))), (23, (.slice (some ⟨g4, 0, none⟩) qu.length wc)), (22, (.pointer (some ⟨p, 2, none⟩))), (21, (.pointer (some ⟨p, 0, none⟩))), (20, (.pointer (some ⟨p, 0, none⟩))), (19, (.bool (decide (0 < (qu.length : Int))))), (0, (.pointer (some ⟨b, 0, none⟩))), (1, (.string (ba kn))), (5, (.pointer (some ⟨p, 0, none⟩))), (6, (.slice oa outx.length oc))]) (l' := [(pts b5 (.cells #[(.int .i64 0), (.int .i64 0), (.bool false)] 197 (0, 0))), (pts p (.cells #[(.slice ha hd.length hc), (.bool wr), (.slice (some ⟨g4, 0, none⟩) qu.length wc)] 202 (0, 0))), (sl 3 1 ha hd.length hc (hd.flatMap ei)), (sl 197 3 (some ⟨g4, 0, none⟩) qu.length wc (qu.flatMap encW)), (pts b (.cells #[(.map (some mb)), (.int .u64 (tk : Int))] 195 (0, 0))), (mp encS mb M), (sl 56 5 oa outx.length oc (outx.flatMap encR)), F]) rfl rfl ?_
    refine oj_e0 (oe_storen (i := 0) rfl rfl rfl T_a197 rfl rfl (by simp [Value.oneCell'])) rfl rfl (fun _ => ?_)
    refine oj_eq (e' := [(7, (.pointer (some ⟨b5, 0, none⟩))), (25, (.agg #[(.int .i64 w1.session), (.int .i64 w1.seq), (.bool w1.reader)])), (24, (.pointer (some ⟨g4, (0 * 3), none⟩))), (23, (.slice (some ⟨g4, 0, none⟩) qu.length wc)), (22, (.pointer (some ⟨p, 2, none⟩))), (21, (.pointer (some ⟨p, 0, none⟩))), (20, (.pointer (some ⟨p, 0, none⟩))), (19, (.bool (decide (0 < (qu.length : Int))))), (0, (.pointer (some ⟨b, 0, none⟩))), (1, (.string (ba kn))), (5, (.pointer (some ⟨p, 0, none⟩))), (6, (.slice oa outx.length oc))]) (l' := [(pts b5 (.cells #[(.int .i64 w1.session), (.int .i64 w1.seq), (.bool w1.reader)] 197 (0, 0))), (pts p (.cells #[(.slice ha hd.length hc), (.bool wr), (.slice (some ⟨g4, 0, none⟩) qu.length wc)] 202 (0, 0))), (sl 3 1 ha hd.length hc (hd.flatMap ei)), (sl 197 3 (some ⟨g4, 0, none⟩) qu.length wc (qu.flatMap encW)), (pts b (.cells #[(.map (some mb)), (.int .u64 (tk : Int))] 195 (0, 0))), (mp encS mb M), (sl 56 5 oa outx.length oc (outx.flatMap encR)), F]) rfl rfl ?_
    refine oj_nil ?_
    refine xj_then ?_
    refine cj_weak (e' := [(7, (.pointer (some ⟨b5, 0, none⟩))), (0, (.pointer (some ⟨b, 0, none⟩))), (1, (.string (ba kn))), (5, (.pointer (some ⟨p, 0, none⟩))), (6, (.slice oa outx.length oc))]) (EnvLe.cons rfl (EnvLe.cons rfl (EnvLe.cons rfl (EnvLe.cons rfl (EnvLe.cons rfl (EnvLe.nil _)))))) (fun _ h => h) ?_
    refine cj_seq ?_
    refine cj_seq ?_
    refine cj_pass (e' := [(42, (.bool ((decide (0 < (hd.length : Int))) && (wr || (!w1.reader))))), (7, (.pointer (some ⟨b5, 0, none⟩))), (0, (.pointer (some ⟨b, 0, none⟩))), (1, (.string (ba kn))), (5, (.pointer (some ⟨p, 0, none⟩))), (6, (.slice oa outx.length oc))]) (l' := [(pts b5 (.cells #[(.int .i64 w1.session), (.int .i64 w1.seq), (.bool w1.reader)] 197 (0, 0))), (pts p (.cells #[(.slice ha hd.length hc), (.bool wr), (.slice (some ⟨g4, 0, none⟩) qu.length wc)] 202 (0, 0))), (sl 3 1 ha hd.length hc (hd.flatMap ei)), (sl 197 3 (some ⟨g4, 0, none⟩) qu.length wc (qu.flatMap encW)), (pts b (.cells #[(.map (some mb)), (.int .u64 (tk : Int))] 195 (0, 0))), (mp encS mb M), (sl 56 5 oa outx.length oc (outx.flatMap encR)), F]) ?_ ?_
    · refine cj_region ?_
      refine og_v (ov_move rfl rfl) rfl rfl rfl ?_
      refine og_v (ov_nilCheck rfl rfl) rfl rfl rfl ?_
      refine og_v (ov_fieldAddr rfl rfl T_f202_0) rfl rfl rfl ?_
      refine og_v (ov_load1 (v := (.slice ha hd.length hc)) rfl rfl T_o72 (rd_pts (i := 1) rfl rfl)) rfl rfl rfl ?_
      refine og_v (ov_lenL rfl rfl rfl Try.underlying72) rfl rfl rfl ?_
      refine og_v (ov_gtr rfl rfl rfl) rfl rfl rfl ?_
      refine og_v (ov_move rfl rfl) rfl rfl rfl ?_
      refine oj_case (fun h6 => ?_) (fun h6 => ?_)
      · have c7 : 0 < (hd.length : Int) := of_decide_eq_true h6
        refine og_v (ov_move rfl rfl) rfl rfl rfl ?_
        refine og_v (ov_nilCheck rfl rfl) rfl rfl rfl ?_
        refine og_v (ov_fieldAddr rfl rfl T_f202_1) rfl rfl rfl ?_
        refine og_v (ov_load1 (v := (.bool wr)) rfl rfl T_o4 (rd_pts (i := 1) rfl rfl)) rfl rfl rfl ?_
        refine og_v (ov_move rfl rfl) rfl rfl rfl ?_
        refine oj_case (fun h8 => ?_) (fun h8 => ?_)
        · have c9 := h8
          refine og_skip rfl rfl rfl ?_
          refine og_skip rfl rfl rfl ?_
          refine og_skip rfl rfl rfl ?_
          refine og_v (ov_pick rfl rfl rfl rfl) rfl rfl rfl ?_
          refine og_v (ov_pick rfl rfl rfl rfl) rfl rfl rfl ?_
          refine oj_nil ?_
          exact xj_pass (EnvLe.cons (by first | (simp [look, h6, h8]; done) | (simp [look, h6, h8]; omega) | (simp [look, h6, h8]; intros; omega)) (EnvLe.cons rfl (EnvLe.cons rfl (EnvLe.cons rfl (EnvLe.cons rfl (EnvLe.cons rfl (EnvLe.nil _))))))) (fun _ h => h)
        · have c10 := h8
          refine og_v (ov_fieldAddr rfl rfl T_f197_2) rfl rfl rfl ?_
          refine og_v (ov_load1 (v := (.bool w1.reader)) rfl rfl T_o4 (rd_pts (i := 0) rfl rfl)) rfl rfl rfl ?_
          refine og_v (ov_not rfl rfl) rfl rfl rfl ?_
          refine og_v (ov_pick rfl rfl rfl rfl) rfl rfl rfl ?_
          refine og_v (ov_pick rfl rfl rfl rfl) rfl rfl rfl ?_
          refine oj_nil ?_
          exact xj_pass (EnvLe.cons (by first | (simp [look, h6, h8]; done) | (simp [look, h6, h8]; omega) | (simp [look, h6, h8]; intros; omega)) (EnvLe.cons rfl (EnvLe.cons rfl (EnvLe.cons rfl (EnvLe.cons rfl (EnvLe.cons rfl (EnvLe.nil _))))))) (fun _ h => h)
      · have c11 : ¬ (0 < (hd.length : Int)) := of_decide_eq_false h6
        refine og_skip rfl rfl rfl ?_
        refine og_skip rfl rfl rfl ?_
        refine og_skip rfl rfl rfl ?_
        refine og_skip rfl rfl rfl ?_
        refine og_skip rfl rfl rfl ?_
        refine og_skip rfl rfl rfl ?_
        refine og_skip rfl rfl rfl ?_
        refine og_skip rfl rfl rfl ?_
        refine og_skip rfl rfl rfl ?_
        refine og_v (ov_pick rfl rfl rfl rfl) rfl rfl rfl ?_
        refine oj_nil ?_
        exact xj_pass (EnvLe.cons (by first | (simp [look, h6]; done) | (simp [look, h6]; omega) | (simp [look, h6]; intros; omega)) (EnvLe.cons rfl (EnvLe.cons rfl (EnvLe.cons rfl (EnvLe.cons rfl (EnvLe.cons rfl (EnvLe.nil _))))))) (fun _ h => h)
    · refine xj_then ?_
      refine cj_cond (b := (decide (0 < (hd.length : Int))) && (wr || (!w1.reader))) rfl (fun h12 => ?_) (fun h12 => ?_)
      · obtain ⟨h13, h14⟩ := Bool.and_eq_true_iff.1 h12
        have c15 : 0 < (hd.length : Int) := of_decide_eq_true h13
        have c16 := Bool.or_eq_true_iff.1 h14
        refine cj_exit ?_
        have hend := serve_stop1 hinv hq (by unfold blocked; simpa using h12)
        refine xj_then_other (by simp) ?_
        refine xj_block_exit_other rfl ?_
        refine xj_round_other (by simp) ?_
        refine xj_block_exit ?_
        refine xj_then ?_
        refine cj_seq ?_
        refine cj_seq ?_
        refine cj_region ?_
        refine oj_v (ov_move rfl rfl) rfl rfl rfl ?_
        refine oj_v (ov_nilCheck rfl rfl) rfl rfl rfl ?_
        refine oj_v (ov_fieldAddr rfl rfl T_f202_0) rfl rfl rfl ?_
        refine oj_v (ov_load1 (v := (.slice ha hd.length hc)) rfl rfl T_o72 (rd_pts (i := 1) rfl rfl)) rfl rfl rfl ?_
        refine oj_v (ov_lenL rfl rfl rfl Try.underlying72) rfl rfl rfl ?_
        refine oj_v (ov_eql rfl rfl rfl) rfl rfl rfl ?_
        refine oj_nil ?_
        refine xj_then ?_
        refine cj_weak (e' := [(64, (.bool ((hd.length : Int) == 0))), (0, (.pointer (some ⟨b, 0, none⟩))), (1, (.string (ba kn))), (6, (.slice oa outx.length oc))]) (EnvLe.cons rfl (EnvLe.cons rfl (EnvLe.cons rfl (EnvLe.cons rfl (EnvLe.nil _))))) (fun _ h => h) ?_
        refine cj_cond (b := (hd.length : Int) == 0) rfl (fun h17 => ?_) (fun h17 => ?_)
        · have c18 : (hd.length : Int) = 0 := by simpa using h17
          refine cj_region ?_
          refine oj_v (ov_move rfl rfl) rfl rfl rfl ?_
          refine oj_v (ov_nilCheck rfl rfl) rfl rfl rfl ?_
          refine oj_v (ov_fieldAddr rfl rfl T_f195_0) rfl rfl rfl ?_
          refine oj_v (ov_load1 (v := (.map (some mb))) rfl rfl T_o193 (rd_pts (i := 4) rfl rfl)) rfl rfl rfl ?_
          refine oj_v (ov_move rfl rfl) rfl rfl rfl ?_
          refine oj_e0 (oe_delete (i := 5) (k := kn) (κ := encS) rfl rfl rfl rfl Try.underlying193 Try.underlying9 rfl) rfl rfl (fun _ => ?_)
          refine oj_eq (e' := [(69, (.string (ba kn))), (68, (.map (some mb))), (67, (.pointer (some ⟨b, 0, none⟩))), (66, (.pointer (some ⟨b, 0, none⟩))), (65, (.pointer (some ⟨b, 0, none⟩))), (64, (.bool ((hd.length : Int) == 0))), (0, (.pointer (some ⟨b, 0, none⟩))), (1, (.string (ba kn))), (6, (.slice oa outx.length oc))]) (l' := [(pts b5 (.cells #[(.int .i64 w1.session), (.int .i64 w1.seq), (.bool w1.reader)] 197 (0, 0))), (pts p (.cells #[(.slice ha hd.length hc), (.bool wr), (.slice (some ⟨g4, 0, none⟩) qu.length wc)] 202 (0, 0))), (sl 3 1 ha hd.length hc (hd.flatMap ei)), (sl 197 3 (some ⟨g4, 0, none⟩) qu.length wc (qu.flatMap encW)), (pts b (.cells #[(.map (some mb)), (.int .u64 (tk : Int))] 195 (0, 0))), (mp encS mb (adel kn M)), (sl 56 5 oa outx.length oc (outx.flatMap encR)), F]) rfl rfl ?_
          refine oj_nil ?_
          refine xj_then ?_
          refine cj_weak (e' := [(6, (.slice oa outx.length oc))]) (EnvLe.cons rfl (EnvLe.nil _)) (fun _ h => h) ?_
          refine cj_seq ?_
          refine cj_region ?_
          refine oj_v (ov_move rfl rfl) rfl rfl rfl ?_
          refine oj_v (ov_assign rfl rfl) rfl rfl rfl ?_
          refine oj_nil ?_
          refine xj_then ?_
          refine cj_ret ?_
          have hif : (if (serveX tok lx).2.2.held = [] then adel kn M else M) = adel kn M := by rw [hend]; exact if_pos (show hd = [] from List.length_eq_zero_iff.1 (by omega))
          rw [hif, hend]
          refine xj_ret (vs := [(.slice oa outx.length oc)]) (oa, oc) rfl rfl ?_
          exact fun h hs => (fun h hs => Sat.tail_mono (fun _ h1 => Sat.tail_mono (fun _ h2 => Sat.tail_mono (fun _ h3 => ex_close (A := fun g : Option Addr × Nat × Option Addr × Nat => [pts p (.cells #[.slice g.1 hd.length g.2.1, .bool wr, .slice g.2.2.1 qu.length g.2.2.2] 202 (0, 0)), sl 3 1 g.1 hd.length g.2.1 (hd.flatMap ei), sl 197 3 g.2.2.1 qu.length g.2.2.2 (qu.flatMap encW)]) (ha, hc, (some ⟨g4, 0, none⟩), wc) h3) h2) h1) hs) h (sat_sub (l' := [(pts b (.cells #[(.map (some mb)), (.int .u64 (tk : Int))] 195 (0, 0))), (mp encS mb (adel kn M)), (sl 56 5 oa outx.length oc (outx.flatMap encR)), (pts p (.cells #[(.slice ha hd.length hc), (.bool wr), (.slice (some ⟨g4, 0, none⟩) qu.length wc)] 202 (0, 0))), (sl 3 1 ha hd.length hc (hd.flatMap ei)), (sl 197 3 (some ⟨g4, 0, none⟩) qu.length wc (qu.flatMap encW)), F]) [4, 5, 6, 1, 2, 3, 7] [0] (by decide +kernel) rfl rfl h hs)
        · have c19 : (hd.length : Int) ≠ 0 := by simpa using h17
          refine cj_skip ?_
          refine xj_then ?_
          refine cj_weak (e' := [(6, (.slice oa outx.length oc))]) (EnvLe.cons rfl (EnvLe.nil _)) (fun _ h => h) ?_
          refine cj_seq ?_
          refine cj_region ?_
          refine oj_v (ov_move rfl rfl) rfl rfl rfl ?_
          refine oj_v (ov_assign rfl rfl) rfl rfl rfl ?_
          refine oj_nil ?_
          refine xj_then ?_
          refine cj_ret ?_
          have hif : (if (serveX tok lx).2.2.held = [] then adel kn M else M) = M := by rw [hend]; exact if_neg (show ¬ hd = [] from fun e => by rw [e] at c19; simp at c19)
          rw [hif, hend]
          refine xj_ret (vs := [(.slice oa outx.length oc)]) (oa, oc) rfl rfl ?_
          exact fun h hs => (fun h hs => Sat.tail_mono (fun _ h1 => Sat.tail_mono (fun _ h2 => Sat.tail_mono (fun _ h3 => ex_close (A := fun g : Option Addr × Nat × Option Addr × Nat => [pts p (.cells #[.slice g.1 hd.length g.2.1, .bool wr, .slice g.2.2.1 qu.length g.2.2.2] 202 (0, 0)), sl 3 1 g.1 hd.length g.2.1 (hd.flatMap ei), sl 197 3 g.2.2.1 qu.length g.2.2.2 (qu.flatMap encW)]) (ha, hc, (some ⟨g4, 0, none⟩), wc) h3) h2) h1) hs) h (sat_sub (l' := [(pts b (.cells #[(.map (some mb)), (.int .u64 (tk : Int))] 195 (0, 0))), (mp encS mb M), (sl 56 5 oa outx.length oc (outx.flatMap encR)), (pts p (.cells #[(.slice ha hd.length hc), (.bool wr), (.slice (some ⟨g4, 0, none⟩) qu.length wc)] 202 (0, 0))), (sl 3 1 ha hd.length hc (hd.flatMap ei)), (sl 197 3 (some ⟨g4, 0, none⟩) qu.length wc (qu.flatMap encW)), F]) [4, 5, 6, 1, 2, 3, 7] [0] (by decide +kernel) rfl rfl h hs)
      · have c20 := Bool.and_eq_false_iff.1 h12
        refine cj_skip ?_
        refine xj_then ?_
        refine cj_seq ?_
        refine cj_region ?_
        refine oj_v (ov_move rfl rfl) rfl rfl rfl ?_
        refine oj_v (ov_move rfl rfl) rfl rfl rfl ?_
        refine oj_v (ov_nilCheck rfl rfl) rfl rfl rfl ?_
        refine oj_v (ov_fieldAddr rfl rfl T_f202_2) rfl rfl rfl ?_
        refine oj_v (ov_load1 (v := (.slice (some ⟨g4, 0, none⟩) qu.length wc)) rfl rfl T_o200 (rd_pts (i := 1) rfl rfl)) rfl rfl rfl ?_
        refine oj_v (ov_cut (i := 1) (j := qu.length) (vl := (some (.int .i64 1))) (vh := none) rfl rfl Try.underlying200 T_s197 rfl rfl (by first | rfl | (unfold bnd; omega)) (by first | rfl | (unfold bnd; omega)) (by omega) (by omega)) rfl rfl rfl ?_
        refine oj_sat (l' := [(pts b5 (.cells #[(.int .i64 w1.session), (.int .i64 w1.seq), (.bool w1.reader)] 197 (0, 0))), (pts p (.cells #[(.slice ha hd.length hc), (.bool wr), (.slice (some ⟨g4, 0, none⟩) qu.length wc)] 202 (0, 0))), (sl 3 1 ha hd.length hc (hd.flatMap ei)), (rs 3 (cutAt (some ⟨g4, 0, none⟩) wc 1 3) (qu.length - 1) (qr.flatMap encW)), (pts b (.cells #[(.map (some mb)), (.int .u64 (tk : Int))] 195 (0, 0))), (mp encS mb M), (sl 56 5 oa outx.length oc (outx.flatMap encR)), F]) (sat_turn 3 rfl (rs_tail encW_len hq)) ?_
        refine oj_e (oe_call rfl rfl rfl Try.func200 rfl rfl (rest := [(pts b5 (.cells #[(.int .i64 w1.session), (.int .i64 w1.seq), (.bool w1.reader)] 197 (0, 0))), (pts p (.cells #[(.slice ha hd.length hc), (.bool wr), (.slice (some ⟨g4, 0, none⟩) qu.length wc)] 202 (0, 0))), (sl 3 1 ha hd.length hc (hd.flatMap ei)), (pts b (.cells #[(.map (some mb)), (.int .u64 (tk : Int))] 195 (0, 0))), (mp encS mb M), (sl 56 5 oa outx.length oc (outx.flatMap encR)), F]) (lib_clone_wt (cutAt (some ⟨g4, 0, none⟩) wc 1 3) (qu.length - 1) (wc - 1) qr (by omega) (by omega)) (js := [3, 0, 1, 2, 4, 5, 6, 7]) ⟨by decide +kernel, rfl, rfl⟩) rfl rfl rfl (fun q21 => ?_)
        refine oj_eq (e' := [(49, (.slice q21.1 (qu.length - 1) q21.2)), (48, (.slice (cutAt (some ⟨g4, 0, none⟩) wc 1 3) (qu.length - 1) (wc - 1))), (47, (.slice (some ⟨g4, 0, none⟩) qu.length wc)), (46, (.pointer (some ⟨p, 2, none⟩))), (45, (.pointer (some ⟨p, 0, none⟩))), (44, (.pointer (some ⟨p, 0, none⟩))), (43, (.pointer (some ⟨p, 0, none⟩))), (42, (.bool ((decide (0 < (hd.length : Int))) && (wr || (!w1.reader))))), (7, (.pointer (some ⟨b5, 0, none⟩))), (0, (.pointer (some ⟨b, 0, none⟩))), (1, (.string (ba kn))), (5, (.pointer (some ⟨p, 0, none⟩))), (6, (.slice oa outx.length oc))]) (l' := [(sl 197 3 q21.1 (qu.length - 1) q21.2 (qr.flatMap encW)), (rs 3 (cutAt (some ⟨g4, 0, none⟩) wc 1 3) (qu.length - 1) (qr.flatMap encW)), (pts b5 (.cells #[(.int .i64 w1.session), (.int .i64 w1.seq), (.bool w1.reader)] 197 (0, 0))), (pts p (.cells #[(.slice ha hd.length hc), (.bool wr), (.slice (some ⟨g4, 0, none⟩) qu.length wc)] 202 (0, 0))), (sl 3 1 ha hd.length hc (hd.flatMap ei)), (pts b (.cells #[(.map (some mb)), (.int .u64 (tk : Int))] 195 (0, 0))), (mp encS mb M), (sl 56 5 oa outx.length oc (outx.flatMap encR)), F]) rfl rfl ?_
        obtain ⟨na, nc⟩ := q21
        refine oj_eq (e' := [(49, (.slice na (qu.length - 1) nc)), (48, (.slice (cutAt (some ⟨g4, 0, none⟩) wc 1 3) (qu.length - 1) (wc - 1))), (47, (.slice (some ⟨g4, 0, none⟩) qu.length wc)), (46, (.pointer (some ⟨p, 2, none⟩))), (45, (.pointer (some ⟨p, 0, none⟩))), (44, (.pointer (some ⟨p, 0, none⟩))), (43, (.pointer (some ⟨p, 0, none⟩))), (42, (.bool ((decide (0 < (hd.length : Int))) && (wr || (!w1.reader))))), (7, (.pointer (some ⟨b5, 0, none⟩))), (0, (.pointer (some ⟨b, 0, none⟩))), (1, (.string (ba kn))), (5, (.pointer (some ⟨p, 0, none⟩))), (6, (.slice oa outx.length oc))]) (l' := [(sl 197 3 na (qu.length - 1) nc (qr.flatMap encW)), (rs 3 (cutAt (some ⟨g4, 0, none⟩) wc 1 3) (qu.length - 1) (qr.flatMap encW)), (pts b5 (.cells #[(.int .i64 w1.session), (.int .i64 w1.seq), (.bool w1.reader)] 197 (0, 0))), (pts p (.cells #[(.slice ha hd.length hc), (.bool wr), (.slice (some ⟨g4, 0, none⟩) qu.length wc)] 202 (0, 0))), (sl 3 1 ha hd.length hc (hd.flatMap ei)), (pts b (.cells #[(.map (some mb)), (.int .u64 (tk : Int))] 195 (0, 0))), (mp encS mb M), (sl 56 5 oa outx.length oc (outx.flatMap encR)), F]) rfl rfl ?_
        refine oj_eq (e' := [(49, (.slice na qr.length nc)), (48, (.slice (cutAt (some ⟨g4, 0, none⟩) wc 1 3) qr.length (wc - 1))), (47, (.slice (some ⟨g4, 0, none⟩) qu.length wc)), (46, (.pointer (some ⟨p, 2, none⟩))), (45, (.pointer (some ⟨p, 0, none⟩))), (44, (.pointer (some ⟨p, 0, none⟩))), (43, (.pointer (some ⟨p, 0, none⟩))), (42, (.bool ((decide (0 < (hd.length : Int))) && (wr || (!w1.reader))))), (7, (.pointer (some ⟨b5, 0, none⟩))), (0, (.pointer (some ⟨b, 0, none⟩))), (1, (.string (ba kn))), (5, (.pointer (some ⟨p, 0, none⟩))), (6, (.slice oa outx.length oc))]) (l' := [(sl 197 3 na qr.length nc (qr.flatMap encW)), (rs 3 (cutAt (some ⟨g4, 0, none⟩) wc 1 3) qr.length (qr.flatMap encW)), (pts b5 (.cells #[(.int .i64 w1.session), (.int .i64 w1.seq), (.bool w1.reader)] 197 (0, 0))), (pts p (.cells #[(.slice ha hd.length hc), (.bool wr), (.slice (some ⟨g4, 0, none⟩) qu.length wc)] 202 (0, 0))), (sl 3 1 ha hd.length hc (hd.flatMap ei)), (pts b (.cells #[(.map (some mb)), (.int .u64 (tk : Int))] 195 (0, 0))), (mp encS mb M), (sl 56 5 oa outx.length oc (outx.flatMap encR)), F]) (by rw [show qu.length - 1 = qr.length by omega]) (by rw [show qu.length - 1 = qr.length by omega]) ?_
        refine oj_v (ov_nilCheck rfl rfl) rfl rfl rfl ?_
        refine oj_v (ov_fieldAddr rfl rfl T_f202_2) rfl rfl rfl ?_
        refine oj_e0 (oe_store1 (i := 3) rfl rfl rfl T_o200 rfl rfl rfl) rfl rfl (fun _ => ?_)
        refine oj_eq (e' := [(51, (.pointer (some ⟨p, 2, none⟩))), (50, (.pointer (some ⟨p, 0, none⟩))), (49, (.slice na qr.length nc)), (48, (.slice (cutAt (some ⟨g4, 0, none⟩) wc 1 3) qr.length (wc - 1))), (47, (.slice (some ⟨g4, 0, none⟩) qu.length wc)), (46, (.pointer (some ⟨p, 2, none⟩))), (45, (.pointer (some ⟨p, 0, none⟩))), (44, (.pointer (some ⟨p, 0, none⟩))), (43, (.pointer (some ⟨p, 0, none⟩))), (42, (.bool ((decide (0 < (hd.length : Int))) && (wr || (!w1.reader))))), (7, (.pointer (some ⟨b5, 0, none⟩))), (0, (.pointer (some ⟨b, 0, none⟩))), (1, (.string (ba kn))), (5, (.pointer (some ⟨p, 0, none⟩))), (6, (.slice oa outx.length oc))]) (l' := [(sl 197 3 na qr.length nc (qr.flatMap encW)), (rs 3 (cutAt (some ⟨g4, 0, none⟩) wc 1 3) qr.length (qr.flatMap encW)), (pts b5 (.cells #[(.int .i64 w1.session), (.int .i64 w1.seq), (.bool w1.reader)] 197 (0, 0))), (pts p (.cells #[(.slice ha hd.length hc), (.bool wr), (.slice na qr.length nc)] 202 (0, 0))), (sl 3 1 ha hd.length hc (hd.flatMap ei)), (pts b (.cells #[(.map (some mb)), (.int .u64 (tk : Int))] 195 (0, 0))), (mp encS mb M), (sl 56 5 oa outx.length oc (outx.flatMap encR)), F]) rfl rfl ?_
        refine oj_nil ?_
        refine xj_then ?_
        refine cj_weak (e' := [(7, (.pointer (some ⟨b5, 0, none⟩))), (0, (.pointer (some ⟨b, 0, none⟩))), (1, (.string (ba kn))), (5, (.pointer (some ⟨p, 0, none⟩))), (6, (.slice oa outx.length oc))]) (EnvLe.cons rfl (EnvLe.cons rfl (EnvLe.cons rfl (EnvLe.cons rfl (EnvLe.cons rfl (EnvLe.nil _)))))) (fun _ h => h) ?_
        refine cj_region ?_
        refine oj_v (ov_move rfl rfl) rfl rfl rfl ?_
        refine oj_v (ov_move rfl rfl) rfl rfl rfl ?_
        refine oj_v (ov_move rfl rfl) rfl rfl rfl ?_
        refine oj_v (ov_loadn (cs := [(.int .i64 w1.session), (.int .i64 w1.seq), (.bool w1.reader)]) rfl rfl T_a197 (rds_pts (i := 2) rfl rfl)) rfl rfl rfl ?_
        refine oj_sat (l' := [(LockR (Lk.mk hd wr qr) p), (rs 3 (cutAt (some ⟨g4, 0, none⟩) wc 1 3) qr.length (qr.flatMap encW)), (pts b5 (.cells #[(.int .i64 w1.session), (.int .i64 w1.seq), (.bool w1.reader)] 197 (0, 0))), (pts b (.cells #[(.map (some mb)), (.int .u64 (tk : Int))] 195 (0, 0))), (mp encS mb M), (sl 56 5 oa outx.length oc (outx.flatMap encR)), F]) (sat_close (r := [(rs 3 (cutAt (some ⟨g4, 0, none⟩) wc 1 3) qr.length (qr.flatMap encW)), (pts b5 (.cells #[(.int .i64 w1.session), (.int .i64 w1.seq), (.bool w1.reader)] 197 (0, 0))), (pts b (.cells #[(.map (some mb)), (.int .u64 (tk : Int))] 195 (0, 0))), (mp encS mb M), (sl 56 5 oa outx.length oc (outx.flatMap encR)), F]) ⟨ha, hc, na, nc⟩ [3, 4, 0, 1, 2, 5, 6, 7, 8] (by decide +kernel) rfl rfl rfl) ?_
        have hb : blocked ⟨hd, wr, w1 :: qr⟩ w1 = false := by unfold blocked; simpa using h12
        refine oj_e (oe_call rfl rfl rfl Try.func122 rfl rfl (rest := [(rs 3 (cutAt (some ⟨g4, 0, none⟩) wc 1 3) qr.length (qr.flatMap encW)), (pts b5 (.cells #[(.int .i64 w1.session), (.int .i64 w1.seq), (.bool w1.reader)] 197 (0, 0))), (mp encS mb M), (sl 56 5 oa outx.length oc (outx.flatMap encR)), F]) (lk_grant b p mb tk (Lk.mk hd wr qr) w1 hinv.2.1 (by simp only; omega) hi4) (js := [3, 0, 1, 2, 4, 5, 6]) ⟨by decide +kernel, rfl, rfl⟩) rfl rfl rfl (fun _ => ?_)
        refine oj_eq (e' := [(56, (.agg #[(.int .i64 ((grantR tk w1).session)), (.int .i64 ((grantR tk w1).seq)), (.int .i64 ((grantR tk w1).err)), (.int .u64 ((grantR tk w1).token : Int)), (.int .i64 ((grantR tk w1).n))])), (55, (.agg #[(.int .i64 w1.session), (.int .i64 w1.seq), (.bool w1.reader)])), (54, (.pointer (some ⟨p, 0, none⟩))), (53, (.pointer (some ⟨b, 0, none⟩))), (52, (.slice oa outx.length oc)), (7, (.pointer (some ⟨b5, 0, none⟩))), (0, (.pointer (some ⟨b, 0, none⟩))), (1, (.string (ba kn))), (5, (.pointer (some ⟨p, 0, none⟩))), (6, (.slice oa outx.length oc))]) (l' := [(pts b (.cells #[(.map (some mb)), (.int .u64 ((grantT tk w1) : Int))] 195 (0, 0))), (LockR (grantX tk (Lk.mk hd wr qr) w1) p), (rs 3 (cutAt (some ⟨g4, 0, none⟩) wc 1 3) qr.length (qr.flatMap encW)), (pts b5 (.cells #[(.int .i64 w1.session), (.int .i64 w1.seq), (.bool w1.reader)] 197 (0, 0))), (mp encS mb M), (sl 56 5 oa outx.length oc (outx.flatMap encR)), F]) rfl rfl ?_
        refine oj_e (oe_buildSlice (cells := #[(.int .i64 ((grantR tk w1).session)), (.int .i64 ((grantR tk w1).seq)), (.int .i64 ((grantR tk w1).err)), (.int .u64 ((grantR tk w1).token : Int)), (.int .i64 ((grantR tk w1).n))]) rfl T_e85 T_z56 rfl rfl rfl rfl) rfl rfl rfl (fun b22 => ?_)
        refine oj_eq (e' := [(57, (.slice (some ⟨b22, 0, none⟩) 1 1)), (56, (.agg #[(.int .i64 ((grantR tk w1).session)), (.int .i64 ((grantR tk w1).seq)), (.int .i64 ((grantR tk w1).err)), (.int .u64 ((grantR tk w1).token : Int)), (.int .i64 ((grantR tk w1).n))])), (55, (.agg #[(.int .i64 w1.session), (.int .i64 w1.seq), (.bool w1.reader)])), (54, (.pointer (some ⟨p, 0, none⟩))), (53, (.pointer (some ⟨b, 0, none⟩))), (52, (.slice oa outx.length oc)), (7, (.pointer (some ⟨b5, 0, none⟩))), (0, (.pointer (some ⟨b, 0, none⟩))), (1, (.string (ba kn))), (5, (.pointer (some ⟨p, 0, none⟩))), (6, (.slice oa outx.length oc))]) (l' := [(pts b22 (.cells #[(.int .i64 ((grantR tk w1).session)), (.int .i64 ((grantR tk w1).seq)), (.int .i64 ((grantR tk w1).err)), (.int .u64 ((grantR tk w1).token : Int)), (.int .i64 ((grantR tk w1).n))] 56 (0, 0))), (pts b (.cells #[(.map (some mb)), (.int .u64 ((grantT tk w1) : Int))] 195 (0, 0))), (LockR (grantX tk (Lk.mk hd wr qr) w1) p), (rs 3 (cutAt (some ⟨g4, 0, none⟩) wc 1 3) qr.length (qr.flatMap encW)), (pts b5 (.cells #[(.int .i64 w1.session), (.int .i64 w1.seq), (.bool w1.reader)] 197 (0, 0))), (mp encS mb M), (sl 56 5 oa outx.length oc (outx.flatMap encR)), F]) rfl rfl ?_
        refine oj_e (oe_append (i := 6) (news := [(.int .i64 ((grantR tk w1).session)), (.int .i64 ((grantR tk w1).seq)), (.int .i64 ((grantR tk w1).err)), (.int .u64 ((grantR tk w1).token : Int)), (.int .i64 ((grantR tk w1).n))]) rfl T_e85 rfl rfl rfl rfl (fun _ h => cells_of_pts (i := 0) rfl rfl h) (by simp [Value.oneCell']) (by unfold maxLen; omega) (by omega)) rfl rfl rfl (fun q23 => ?_)
        refine oj_eq (e' := [(58, (.slice q23.1 (outx.length + 1) q23.2)), (57, (.slice (some ⟨b22, 0, none⟩) 1 1)), (56, (.agg #[(.int .i64 ((grantR tk w1).session)), (.int .i64 ((grantR tk w1).seq)), (.int .i64 ((grantR tk w1).err)), (.int .u64 ((grantR tk w1).token : Int)), (.int .i64 ((grantR tk w1).n))])), (55, (.agg #[(.int .i64 w1.session), (.int .i64 w1.seq), (.bool w1.reader)])), (54, (.pointer (some ⟨p, 0, none⟩))), (53, (.pointer (some ⟨b, 0, none⟩))), (52, (.slice oa outx.length oc)), (7, (.pointer (some ⟨b5, 0, none⟩))), (0, (.pointer (some ⟨b, 0, none⟩))), (1, (.string (ba kn))), (5, (.pointer (some ⟨p, 0, none⟩))), (6, (.slice oa outx.length oc))]) (l' := [(sl 56 5 q23.1 (outx.length + 1) q23.2 ((outx.flatMap encR) ++ [(.int .i64 ((grantR tk w1).session)), (.int .i64 ((grantR tk w1).seq)), (.int .i64 ((grantR tk w1).err)), (.int .u64 ((grantR tk w1).token : Int)), (.int .i64 ((grantR tk w1).n))])), (pts b22 (.cells #[(.int .i64 ((grantR tk w1).session)), (.int .i64 ((grantR tk w1).seq)), (.int .i64 ((grantR tk w1).err)), (.int .u64 ((grantR tk w1).token : Int)), (.int .i64 ((grantR tk w1).n))] 56 (0, 0))), (pts b (.cells #[(.map (some mb)), (.int .u64 ((grantT tk w1) : Int))] 195 (0, 0))), (LockR (grantX tk (Lk.mk hd wr qr) w1) p), (rs 3 (cutAt (some ⟨g4, 0, none⟩) wc 1 3) qr.length (qr.flatMap encW)), (pts b5 (.cells #[(.int .i64 w1.session), (.int .i64 w1.seq), (.bool w1.reader)] 197 (0, 0))), (mp encS mb M), F]) rfl rfl ?_
        obtain ⟨qa, qc⟩ := q23
        refine oj_eq (e' := [(58, (.slice qa (outx.length + 1) qc)), (57, (.slice (some ⟨b22, 0, none⟩) 1 1)), (56, (.agg #[(.int .i64 ((grantR tk w1).session)), (.int .i64 ((grantR tk w1).seq)), (.int .i64 ((grantR tk w1).err)), (.int .u64 ((grantR tk w1).token : Int)), (.int .i64 ((grantR tk w1).n))])), (55, (.agg #[(.int .i64 w1.session), (.int .i64 w1.seq), (.bool w1.reader)])), (54, (.pointer (some ⟨p, 0, none⟩))), (53, (.pointer (some ⟨b, 0, none⟩))), (52, (.slice oa outx.length oc)), (7, (.pointer (some ⟨b5, 0, none⟩))), (0, (.pointer (some ⟨b, 0, none⟩))), (1, (.string (ba kn))), (5, (.pointer (some ⟨p, 0, none⟩))), (6, (.slice oa outx.length oc))]) (l' := [(sl 56 5 qa (outx.length + 1) qc ((outx.flatMap encR) ++ [(.int .i64 ((grantR tk w1).session)), (.int .i64 ((grantR tk w1).seq)), (.int .i64 ((grantR tk w1).err)), (.int .u64 ((grantR tk w1).token : Int)), (.int .i64 ((grantR tk w1).n))])), (pts b22 (.cells #[(.int .i64 ((grantR tk w1).session)), (.int .i64 ((grantR tk w1).seq)), (.int .i64 ((grantR tk w1).err)), (.int .u64 ((grantR tk w1).token : Int)), (.int .i64 ((grantR tk w1).n))] 56 (0, 0))), (pts b (.cells #[(.map (some mb)), (.int .u64 ((grantT tk w1) : Int))] 195 (0, 0))), (LockR (grantX tk (Lk.mk hd wr qr) w1) p), (rs 3 (cutAt (some ⟨g4, 0, none⟩) wc 1 3) qr.length (qr.flatMap encW)), (pts b5 (.cells #[(.int .i64 w1.session), (.int .i64 w1.seq), (.bool w1.reader)] 197 (0, 0))), (mp encS mb M), F]) rfl rfl ?_
        refine oj_eq (e' := [(58, (.slice qa ((outx ++ [grantR tk w1]).length) qc)), (57, (.slice (some ⟨b22, 0, none⟩) 1 1)), (56, (.agg #[(.int .i64 ((grantR tk w1).session)), (.int .i64 ((grantR tk w1).seq)), (.int .i64 ((grantR tk w1).err)), (.int .u64 ((grantR tk w1).token : Int)), (.int .i64 ((grantR tk w1).n))])), (55, (.agg #[(.int .i64 w1.session), (.int .i64 w1.seq), (.bool w1.reader)])), (54, (.pointer (some ⟨p, 0, none⟩))), (53, (.pointer (some ⟨b, 0, none⟩))), (52, (.slice oa outx.length oc)), (7, (.pointer (some ⟨b5, 0, none⟩))), (0, (.pointer (some ⟨b, 0, none⟩))), (1, (.string (ba kn))), (5, (.pointer (some ⟨p, 0, none⟩))), (6, (.slice oa outx.length oc))]) (l' := [(sl 56 5 qa ((outx ++ [grantR tk w1]).length) qc ((outx ++ [grantR tk w1]).flatMap encR)), (pts b22 (.cells #[(.int .i64 ((grantR tk w1).session)), (.int .i64 ((grantR tk w1).seq)), (.int .i64 ((grantR tk w1).err)), (.int .u64 ((grantR tk w1).token : Int)), (.int .i64 ((grantR tk w1).n))] 56 (0, 0))), (pts b (.cells #[(.map (some mb)), (.int .u64 ((grantT tk w1) : Int))] 195 (0, 0))), (LockR (grantX tk (Lk.mk hd wr qr) w1) p), (rs 3 (cutAt (some ⟨g4, 0, none⟩) wc 1 3) qr.length (qr.flatMap encW)), (pts b5 (.cells #[(.int .i64 w1.session), (.int .i64 w1.seq), (.bool w1.reader)] 197 (0, 0))), (mp encS mb M), F]) (by simp) (by rw [← grantR_flat]; simp) ?_
        refine oj_v (ov_assign rfl rfl) rfl rfl rfl ?_
        refine oj_nil ?_
        refine xj_block_normal ?_
        obtain ⟨hd2, wr2, hgx⟩ := grantX_shape tk hd wr qr w1
        rw [hgx]
        exact xj_round ⟨(outx ++ [grantR tk w1]), (grantT tk w1), hd2, wr2, qr, qa, qc⟩ (by dsimp only; rw [hq]; simp only [List.length_cons]; omega) (EnvLe.cons rfl (EnvLe.cons rfl (EnvLe.cons rfl (EnvLe.cons rfl (EnvLe.nil _))))) (fun h hs => Sat.fact_in (serve_step hinv hq hb hgx) (sat_sub [2, 6, 3, 0, 7] [1, 4, 5] (by decide +kernel) rfl rfl h hs))
  · have c24 : ¬ (0 < (qu.length : Int)) := of_decide_eq_false h2
    refine cj_exit ?_
    have hend := serve_stop0 hinv c24
    refine xj_then_other (by simp) ?_
    refine xj_round_other (by simp) ?_
    refine xj_block_exit ?_
    refine xj_then ?_
    refine cj_seq ?_
    refine cj_seq ?_
    refine cj_region ?_
    refine oj_v (ov_move rfl rfl) rfl rfl rfl ?_
    refine oj_v (ov_nilCheck rfl rfl) rfl rfl rfl ?_
    refine oj_v (ov_fieldAddr rfl rfl T_f202_0) rfl rfl rfl ?_
    refine oj_v (ov_load1 (v := (.slice ha hd.length hc)) rfl rfl T_o72 (rd_pts (i := 0) rfl rfl)) rfl rfl rfl ?_
    refine oj_v (ov_lenL rfl rfl rfl Try.underlying72) rfl rfl rfl ?_
    refine oj_v (ov_eql rfl rfl rfl) rfl rfl rfl ?_
    refine oj_nil ?_
    refine xj_then ?_
    refine cj_weak (e' := [(64, (.bool ((hd.length : Int) == 0))), (0, (.pointer (some ⟨b, 0, none⟩))), (1, (.string (ba kn))), (6, (.slice oa outx.length oc))]) (EnvLe.cons rfl (EnvLe.cons rfl (EnvLe.cons rfl (EnvLe.cons rfl (EnvLe.nil _))))) (fun _ h => h) ?_
    refine cj_cond (b := (hd.length : Int) == 0) rfl (fun h25 => ?_) (fun h25 => ?_)
    · have c26 : (hd.length : Int) = 0 := by simpa using h25
      refine cj_region ?_
      refine oj_v (ov_move rfl rfl) rfl rfl rfl ?_
      refine oj_v (ov_nilCheck rfl rfl) rfl rfl rfl ?_
      refine oj_v (ov_fieldAddr rfl rfl T_f195_0) rfl rfl rfl ?_
      refine oj_v (ov_load1 (v := (.map (some mb))) rfl rfl T_o193 (rd_pts (i := 3) rfl rfl)) rfl rfl rfl ?_
      refine oj_v (ov_move rfl rfl) rfl rfl rfl ?_
      refine oj_e0 (oe_delete (i := 4) (k := kn) (κ := encS) rfl rfl rfl rfl Try.underlying193 Try.underlying9 rfl) rfl rfl (fun _ => ?_)
      refine oj_eq (e' := [(69, (.string (ba kn))), (68, (.map (some mb))), (67, (.pointer (some ⟨b, 0, none⟩))), (66, (.pointer (some ⟨b, 0, none⟩))), (65, (.pointer (some ⟨b, 0, none⟩))), (64, (.bool ((hd.length : Int) == 0))), (0, (.pointer (some ⟨b, 0, none⟩))), (1, (.string (ba kn))), (6, (.slice oa outx.length oc))]) (l' := [(pts p (.cells #[(.slice ha hd.length hc), (.bool wr), (.slice wa qu.length wc)] 202 (0, 0))), (sl 3 1 ha hd.length hc (hd.flatMap ei)), (sl 197 3 wa qu.length wc (qu.flatMap encW)), (pts b (.cells #[(.map (some mb)), (.int .u64 (tk : Int))] 195 (0, 0))), (mp encS mb (adel kn M)), (sl 56 5 oa outx.length oc (outx.flatMap encR)), F]) rfl rfl ?_
      refine oj_nil ?_
      refine xj_then ?_
      refine cj_weak (e' := [(6, (.slice oa outx.length oc))]) (EnvLe.cons rfl (EnvLe.nil _)) (fun _ h => h) ?_
      refine cj_seq ?_
      refine cj_region ?_
      refine oj_v (ov_move rfl rfl) rfl rfl rfl ?_
      refine oj_v (ov_assign rfl rfl) rfl rfl rfl ?_
      refine oj_nil ?_
      refine xj_then ?_
      refine cj_ret ?_
      have hif : (if (serveX tok lx).2.2.held = [] then adel kn M else M) = adel kn M := by rw [hend]; exact if_pos (show hd = [] from List.length_eq_zero_iff.1 (by omega))
      rw [hif, hend]
      refine xj_ret (vs := [(.slice oa outx.length oc)]) (oa, oc) rfl rfl ?_
      exact fun h hs => (fun h hs => Sat.tail_mono (fun _ h1 => Sat.tail_mono (fun _ h2 => Sat.tail_mono (fun _ h3 => ex_close (A := fun g : Option Addr × Nat × Option Addr × Nat => [pts p (.cells #[.slice g.1 hd.length g.2.1, .bool wr, .slice g.2.2.1 qu.length g.2.2.2] 202 (0, 0)), sl 3 1 g.1 hd.length g.2.1 (hd.flatMap ei), sl 197 3 g.2.2.1 qu.length g.2.2.2 (qu.flatMap encW)]) (ha, hc, wa, wc) h3) h2) h1) hs) h (sat_sub (l' := [(pts b (.cells #[(.map (some mb)), (.int .u64 (tk : Int))] 195 (0, 0))), (mp encS mb (adel kn M)), (sl 56 5 oa outx.length oc (outx.flatMap encR)), (pts p (.cells #[(.slice ha hd.length hc), (.bool wr), (.slice wa qu.length wc)] 202 (0, 0))), (sl 3 1 ha hd.length hc (hd.flatMap ei)), (sl 197 3 wa qu.length wc (qu.flatMap encW)), F]) [3, 4, 5, 0, 1, 2, 6] [] (by decide +kernel) rfl rfl h hs)
    · have c27 : (hd.length : Int) ≠ 0 := by simpa using h25
      refine cj_skip ?_
      refine xj_then ?_
      refine cj_weak (e' := [(6, (.slice oa outx.length oc))]) (EnvLe.cons rfl (EnvLe.nil _)) (fun _ h => h) ?_
      refine cj_seq ?_
      refine cj_region ?_
      refine oj_v (ov_move rfl rfl) rfl rfl rfl ?_
      refine oj_v (ov_assign rfl rfl) rfl rfl rfl ?_
      refine oj_nil ?_
      refine xj_then ?_
      refine cj_ret ?_
      have hif : (if (serveX tok lx).2.2.held = [] then adel kn M else M) = M := by rw [hend]; exact if_neg (show ¬ hd = [] from fun e => by rw [e] at c27; simp at c27)
      rw [hif, hend]
      refine xj_ret (vs := [(.slice oa outx.length oc)]) (oa, oc) rfl rfl ?_
      exact fun h hs => (fun h hs => Sat.tail_mono (fun _ h1 => Sat.tail_mono (fun _ h2 => Sat.tail_mono (fun _ h3 => ex_close (A := fun g : Option Addr × Nat × Option Addr × Nat => [pts p (.cells #[.slice g.1 hd.length g.2.1, .bool wr, .slice g.2.2.1 qu.length g.2.2.2] 202 (0, 0)), sl 3 1 g.1 hd.length g.2.1 (hd.flatMap ei), sl 197 3 g.2.2.1 qu.length g.2.2.2 (qu.flatMap encW)]) (ha, hc, wa, wc) h3) h2) h1) hs) h (sat_sub (l' := [(pts b (.cells #[(.map (some mb)), (.int .u64 (tk : Int))] 195 (0, 0))), (mp encS mb M), (sl 56 5 oa outx.length oc (outx.flatMap encR)), (pts p (.cells #[(.slice ha hd.length hc), (.bool wr), (.slice wa qu.length wc)] 202 (0, 0))), (sl 3 1 ha hd.length hc (hd.flatMap ei)), (sl 197 3 wa qu.length wc (qu.flatMap encW)), F]) [3, 4, 5, 0, 1, 2, 6] [] (by decide +kernel) rfl rfl h hs)

end Go.Proofs.Ytbjdadekheoebaa
