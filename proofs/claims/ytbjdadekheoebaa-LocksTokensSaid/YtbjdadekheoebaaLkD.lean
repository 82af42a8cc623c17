/- The package locks: releasing, going away. -/
import Derived.Test.YtbjdadekheoebaaLkC
set_option linter.all false
set_option linter.unusedVariables false
set_option linter.unusedSimpArgs false
set_option linter.unusedSectionVars false
set_option linter.unnecessarySimpa false
namespace Go.Proofs.Ytbjdadekheoebaa
open Go.RowKit Go.Lib

theorem locks_serve {l : List (Nm × Nat × Lk)} {m : Lks} {k : Nm} {p mb b tok : Nat} {x x' : Lk} {rest : List HP} (hm : l.map (fun e => (e.1, e.2.2)) = m) (hr : Rising l) (hg : aget k l = some (p, x)) :
    ∀ h, Sat (pts b (.cells #[.map (some mb), .int .u64 ((serveX tok x').2.1 : Int)] 195 (0, 0)) :: mp encS mb (if (serveX tok x').2.2.held = [] then adel k (l.map ptrE) else l.map ptrE) :: LockR (serveX tok x').2.2 p :: all lockE (adel k l) :: rest) h →
      Sat (LocksR (serveM tok m k x').2.2 (serveM tok m k x').2.1 b :: rest) h := fun h hs => by
  simp only [serveM]
  by_cases hz : (serveX tok x').2.2.held = []
  · rw [if_pos hz] at hs ⊢
    exact locks_del hm h (Sat.tail_mono (fun _ h1 => Sat.tail_mono (fun _ h2 => h2.drop1) h1) hs)
  · rw [if_neg hz] at hs ⊢
    exact locks_put hm hr hg h hs
theorem serveM_1 (tok : Nat) (m : Lks) (k : Nm) (x : Lk) : (serveM tok m k x).1 = (serveX tok x).1 := rfl
def GoneInv (n : Nat) (s : Int) (tok : Nat) (m : Lks) (i : Nat) (out : List Rp) (tk : Nat) (mm : Lks) : Prop :=
  goneM tok m s = (out ++ (goneL s ((m.map (·.1)).drop i) tk mm).1, (goneL s ((m.map (·.1)).drop i) tk mm).2) ∧ okM n mm ∧ tk ≤ topTok ∧ i ≤ (m.map (·.1)).length ∧ out.length ≤ 1048576 * i ∧ ∀ k ∈ (m.map (·.1)).drop i, ∃ x, aget k mm = some x
theorem gone_start {n : Nat} {s : Int} {tok : Nat} {m : Lks} (hm : okM n m) (ht : tok ≤ topTok) : GoneInv n s tok m 0 [] tok m := by
  refine ⟨by simp [goneM], hm, ht, by simp, by simp, fun k hk => ?_⟩
  simp only [List.drop_zero] at hk
  obtain ⟨q, hq, rfl⟩ := List.mem_map.1 hk
  exact ⟨q.2, aget_of_mem hm.1.nodup hq⟩
theorem gone_at {n : Nat} {s : Int} {tok : Nat} {m : Lks} {i : Nat} {out : List Rp} {tk : Nat} {mm : Lks} {kn : Nm} (h : GoneInv n s tok m i out tk mm) (hk : (m.map (·.1))[i]? = some kn) : ∃ x, aget kn mm = some x := by
  refine h.2.2.2.2.2 kn ?_
  have : ((m.map (·.1)).drop i)[0]? = some kn := by simpa using hk
  exact List.mem_of_getElem? this
theorem gone_drop {m : Lks} {i : Nat} {kn : Nm} (hk : (m.map (·.1))[i]? = some kn) : (m.map (·.1)).drop i = kn :: (m.map (·.1)).drop (i + 1) := by
  obtain ⟨h1, h2⟩ := List.getElem?_eq_some_iff.1 hk
  rw [List.drop_eq_getElem_cons h1, h2]
set_option maxRecDepth 100000 in
theorem gone_skip {n : Nat} {s : Int} {tok : Nat} {m : Lks} {i : Nat} {out : List Rp} {tk : Nat} {mm : Lks} {kn : Nm} {x : Lk} (h : GoneInv n s tok m i out tk mm) (hk : (m.map (·.1))[i]? = some kn) (hx : aget kn mm = some x) (ha : asksX x s = false) : GoneInv n s tok m (i + 1) out tk mm := by
  obtain ⟨h1, h2, h3, h4, h5, h6⟩ := h
  have hd := gone_drop hk
  have hlt := (List.getElem?_eq_some_iff.1 hk).1
  refine ⟨?_, h2, h3, by omega, by omega, fun k hk' => h6 k (by rw [hd]; exact List.mem_cons_of_mem _ hk')⟩
  rw [h1, hd]; simp [goneL, hx, ha]
theorem serveM_get {tok : Nat} {m : Lks} {k j : Nm} {x : Lk} (hm : Rising m) (hj : j ≠ k) : aget j (serveM tok m k x).2.2 = aget j m := by
  simp only [serveM]; split
  · rw [aget_adel]; simp [hj]
  · rw [aget_aput hm]; simp [hj]
set_option maxRecDepth 100000 in
theorem gone_step {n : Nat} {s : Int} {tok : Nat} {m : Lks} {i : Nat} {out : List Rp} {tk : Nat} {mm : Lks} {kn : Nm} {x : Lk} (hmr : Rising m) (hn : n ≤ 1048576) (h : GoneInv n s tok m i out tk mm) (hk : (m.map (·.1))[i]? = some kn) (hx : aget kn mm = some x) (ha : asksX x s = true) :
    GoneInv n s tok m (i + 1) (out ++ (serveM tk mm kn ⟨x.held.filter (fun y => !(y == s)), x.writer, x.queue.filter fun w => !(w.session == s)⟩).1) (serveM tk mm kn ⟨x.held.filter (fun y => !(y == s)), x.writer, x.queue.filter fun w => !(w.session == s)⟩).2.1 (serveM tk mm kn ⟨x.held.filter (fun y => !(y == s)), x.writer, x.queue.filter fun w => !(w.session == s)⟩).2.2 := by
  obtain ⟨h1, h2, h3, h4, h5, h6⟩ := h
  have hd := gone_drop hk
  have hlt := (List.getElem?_eq_some_iff.1 hk).1
  have hok := filter_ok (p := fun y => !(y == s)) (q := fun w => !(w.session == s)) (h2.get hx)
  refine ⟨?_, serveM_ok h2 hx hok, serveQ_tok _ _ _ _ h3, by omega, ?_, fun k hk' => ?_⟩
  · rw [h1, hd]; simp [goneL, hx, ha]
  · have := serveQ_len (x.queue.filter fun w => !(w.session == s)) tk (x.held.filter (fun y => !(y == s))) x.writer
    have h9 := hok.2
    simp only [serveM, serveX, List.length_append] at this ⊢
    simp only at h9
    omega
  · have hnd : ((m.map (·.1)).drop i).Nodup := List.Nodup.sublist (List.drop_sublist _ _) hmr.nodup
    rw [hd] at hnd
    have hne : k ≠ kn := fun e => (List.nodup_cons.1 hnd).1 (e ▸ hk')
    rw [serveM_get h2.1 hne]
    exact h6 k (by rw [hd]; exact List.mem_cons_of_mem _ hk')
theorem gone_end {n : Nat} {s : Int} {tok : Nat} {m : Lks} {i : Nat} {out : List Rp} {tk : Nat} {mm : Lks} (h : GoneInv n s tok m i out tk mm) (hi : ¬ ((i : Int) < ((m.map (·.1)).length : Int))) : goneM tok m s = (out, tk, mm) := by
  have : (m.map (·.1)).drop i = [] := List.drop_of_length_le (by omega)
  rw [h.1, this]; simp [goneL]

set_option maxRecDepth 100000 in
set_option maxHeartbeats 8000000 in
theorem clo_rel (b : Nat) (c : Cm) (y : Int) : Spec Try.prog 126 [(.int .i64 y), (.pointer (some ⟨b, 0, none⟩))] [(pts b (.cells #[(.int .i64 c.kind), (.int .i64 c.session), (.int .i64 c.seq), (.string (ba c.name)), (.int .i64 c.n)] 24 (0, 0)))] (fun x : Unit => .bool (y == c.session)) (fun x : Unit => [(pts b (.cells #[(.int .i64 c.kind), (.int .i64 c.session), (.int .i64 c.seq), (.string (ba c.name)), (.int .i64 c.n)] 24 (0, 0)))]) := by
  refine spec_of (fn := Try.f126) Try.func126 rfl rfl rfl fun F s => ?_
  show CJ _ _ _ _ _ [(0, (.int .i64 y)), (1, (.pointer (some ⟨b, 0, none⟩)))] [(pts b (.cells #[(.int .i64 c.kind), (.int .i64 c.session), (.int .i64 c.seq), (.string (ba c.name)), (.int .i64 c.n)] 24 (0, 0))), F]
  refine cj_seq ?_
  refine cj_region ?_
  refine oj_v (ov_assign rfl rfl) rfl rfl rfl ?_
  refine oj_nil ?_
  refine xj_then ?_
  refine cj_seq ?_
  refine cj_region ?_
  refine oj_v (ov_move rfl rfl) rfl rfl rfl ?_
  refine oj_v (ov_fieldAddr rfl rfl T_f24_1) rfl rfl rfl ?_
  refine oj_v (ov_load1 (v := (.int .i64 c.session)) rfl rfl T_o3 (rd_pts (i := 0) rfl rfl)) rfl rfl rfl ?_
  refine oj_v (ov_eql rfl rfl rfl) rfl rfl rfl ?_
  refine oj_v (ov_assign rfl rfl) rfl rfl rfl ?_
  refine oj_nil ?_
  refine xj_then ?_
  refine cj_weak (e' := [(3, (.bool (y == c.session)))]) (EnvLe.cons rfl (EnvLe.nil _)) (fun _ h => h) ?_
  refine cj_ret ?_
  refine xj_ret (vs := [(.bool (y == c.session))]) () rfl rfl ?_
  exact fun _ h => h

theorem rel_cond {a b d : Bool} (h : (!(a == b) || !d) = true) : a ≠ b ∨ d = false := by cases a <;> cases b <;> cases d <;> simp_all
theorem filter_okh {n : Nat} {x : Lk} {p : Int → Bool} (h : okX n x) : okX n ⟨x.held.filter p, x.writer, x.queue⟩ := ⟨h.1.sublist List.filter_sublist, by have := h.2; have h1 := List.length_filter_le p x.held; simp only; omega⟩

set_option maxRecDepth 100000 in
set_option maxHeartbeats 8000000 in
theorem lk_release (b tok n : Nat) (m : Lks) (c : Cm) (hm : okM n m) (hn : n ≤ 1048576) (ht : tok ≤ topTok) : Spec Try.prog 42 [(.pointer (some ⟨b, 0, none⟩)), (.agg #[(.int .i64 c.kind), (.int .i64 c.session), (.int .i64 c.seq), (.string (ba c.name)), (.int .i64 c.n)])] [(LocksR m tok b)] (fun x : Option Addr × Nat => .slice x.1 (releaseM tok m c).1.length x.2) (fun x : Option Addr × Nat => [sl 56 5 x.1 (releaseM tok m c).1.length x.2 ((releaseM tok m c).1.flatMap encR), LocksR (releaseM tok m c).2.2 (releaseM tok m c).2.1 b]) := by
  refine spec_of (fn := Try.f42) Try.func42 rfl rfl rfl fun F s => ?_
  show CJ _ _ _ _ _ [(0, (.pointer (some ⟨b, 0, none⟩))), (1, (.agg #[(.int .i64 c.kind), (.int .i64 c.session), (.int .i64 c.seq), (.string (ba c.name)), (.int .i64 c.n)]))] [(LocksR m tok b), F]
  refine cj_seq ?_
  refine cj_region ?_
  refine oj_e (oe_box rfl rfl) rfl rfl rfl (fun b1 => ?_)
  refine oj_eq (e' := [(3, (.pointer (some ⟨b1, 0, none⟩))), (0, (.pointer (some ⟨b, 0, none⟩))), (1, (.agg #[(.int .i64 c.kind), (.int .i64 c.session), (.int .i64 c.seq), (.string (ba c.name)), (.int .i64 c.n)]))]) (l' := [(pts b1 (.cells #[(.int .i64 c.kind), (.int .i64 c.session), (.int .i64 c.seq), (.string (ba c.name)), (.int .i64 c.n)] 24 (0, 0))), (LocksR m tok b), F]) rfl rfl ?_
  refine oj_v (ov_assign rfl rfl) rfl rfl rfl ?_
  refine oj_nil ?_
  refine xj_then ?_
  refine cj_seq ?_
  refine cj_seq ?_
  refine cj_pass (e' := [(17, (.bool ((c.kind != 6) && (c.kind != 8)))), (4, (.slice none 0 0)), (3, (.pointer (some ⟨b1, 0, none⟩))), (0, (.pointer (some ⟨b, 0, none⟩)))]) (l' := [(pts b1 (.cells #[(.int .i64 c.kind), (.int .i64 c.session), (.int .i64 c.seq), (.string (ba c.name)), (.int .i64 c.n)] 24 (0, 0))), (LocksR m tok b), F]) ?_ ?_
  · refine cj_region ?_
    refine og_v (ov_move rfl rfl) rfl rfl rfl ?_
    refine og_v (ov_peql rfl rfl rfl Try.underlying78) rfl rfl rfl ?_
    refine og_v (ov_move rfl rfl) rfl rfl rfl ?_
    refine og_v (ov_fieldAddr rfl rfl T_f24_0) rfl rfl rfl ?_
    refine og_v (ov_load1 (v := (.int .i64 c.kind)) rfl rfl T_o3 (rd_pts (i := 0) rfl rfl)) rfl rfl rfl ?_
    refine og_v (ov_neq rfl rfl rfl) rfl rfl rfl ?_
    refine og_v (ov_move rfl rfl) rfl rfl rfl ?_
    refine oj_case (fun h2 => ?_) (fun h2 => ?_)
    · have c3 : c.kind ≠ 6 := by simpa using h2
      refine og_v (ov_fieldAddr rfl rfl T_f24_0) rfl rfl rfl ?_
      refine og_v (ov_load1 (v := (.int .i64 c.kind)) rfl rfl T_o3 (rd_pts (i := 0) rfl rfl)) rfl rfl rfl ?_
      refine og_v (ov_neq rfl rfl rfl) rfl rfl rfl ?_
      refine og_v (ov_pick rfl rfl rfl rfl) rfl rfl rfl ?_
      refine og_v (ov_pick rfl rfl rfl rfl) rfl rfl rfl ?_
      refine oj_nil ?_
      exact xj_pass (EnvLe.cons (by first | (simp [look, h2]; done) | (simp [look, h2]; omega) | (simp [look, h2]; intros; omega)) (EnvLe.cons rfl (EnvLe.cons rfl (EnvLe.cons rfl (EnvLe.nil _))))) (fun _ h => h)
    · have c4 : c.kind = 6 := by simpa using h2
      refine og_skip rfl rfl rfl ?_
      refine og_skip rfl rfl rfl ?_
      refine og_skip rfl rfl rfl ?_
      refine og_v (ov_pick rfl rfl rfl rfl) rfl rfl rfl ?_
      refine og_v (ov_pick rfl rfl rfl rfl) rfl rfl rfl ?_
      refine oj_nil ?_
      exact xj_pass (EnvLe.cons (by first | (simp [look, h2]; done) | (simp [look, h2]; omega) | (simp [look, h2]; intros; omega)) (EnvLe.cons rfl (EnvLe.cons rfl (EnvLe.cons rfl (EnvLe.nil _))))) (fun _ h => h)
  · refine xj_then ?_
    refine cj_cond (b := (c.kind != 6) && (c.kind != 8)) rfl (fun h5 => ?_) (fun h5 => ?_)
    · obtain ⟨h6, h7⟩ := Bool.and_eq_true_iff.1 h5
      have c8 : c.kind ≠ 6 := by simpa using h6
      have c9 : c.kind ≠ 8 := by simpa using h7
      refine cj_seq ?_
      refine cj_region ?_
      refine oj_v (ov_assign rfl rfl) rfl rfl rfl ?_
      refine oj_nil ?_
      refine xj_then ?_
      refine cj_ret ?_
      refine xj_then_other (by simp) ?_
      rw [rel_kind (kind_no h5)]
      refine xj_ret (vs := [(.slice none 0 0)]) (none, 0) rfl rfl ?_
      exact fun h hs => (fun h hs => Sat.sl_new hs) h (sat_sub (l' := [(LocksR m tok b), F]) [1, 2] [0] (by decide +kernel) rfl rfl h hs)
    · have c10 := Bool.and_eq_false_iff.1 h5
      refine cj_skip ?_
      refine xj_then ?_
      refine cj_seq ?_
      refine cj_out (sat_open 1 rfl) (fun x11 => ?_)
      obtain ⟨mb, l⟩ := x11
      refine cj_eq (e' := [(17, (.bool ((c.kind != 6) && (c.kind != 8)))), (4, (.slice none 0 0)), (3, (.pointer (some ⟨b1, 0, none⟩))), (0, (.pointer (some ⟨b, 0, none⟩)))]) (l' := [(fact (l.map (fun e => (e.1, e.2.2)) = m)), (pts b (.cells #[(.map (some mb)), (.int .u64 (tok : Int))] 195 (0, 0))), (mp encS mb (l.map ptrE)), (all lockE l), (pts b1 (.cells #[(.int .i64 c.kind), (.int .i64 c.session), (.int .i64 c.seq), (.string (ba c.name)), (.int .i64 c.n)] 24 (0, 0))), F]) rfl rfl ?_
      refine cj_fact (sat_fact 0 rfl) (fun f12 => ?_)
      refine cj_sat (l' := [(pts b (.cells #[(.map (some mb)), (.int .u64 (tok : Int))] 195 (0, 0))), (mp encS mb (l.map ptrE)), (all lockE l), (pts b1 (.cells #[(.int .i64 c.kind), (.int .i64 c.session), (.int .i64 c.seq), (.string (ba c.name)), (.int .i64 c.n)] 24 (0, 0))), F]) (sat_sub [1, 2, 3, 4, 5] [0] (by decide +kernel) rfl rfl) ?_
      have hrl := rising_l f12 hm.1
      have hll := len_l f12
      have hmx := hm.2.1
      rcases hget : aget c.name m with _ | x0
      · obtain ⟨hnk, hnl⟩ := find_no f12 hget
        refine cj_sched [(pts b (.cells #[(.map (some mb)), (.int .u64 (tok : Int))] 195 (0, 0))), (mp encS mb (l.map ptrE)), (pts b1 (.cells #[(.int .i64 c.kind), (.int .i64 c.session), (.int .i64 c.seq), (.string (ba c.name)), (.int .i64 c.n)] 24 (0, 0)))] [] [(0, true), (1, true), (2, true), (3, true), (4, false), (5, false), (6, false), (7, false)] T_mixed (by decide +kernel) rfl ?_
        refine dj_eq (e' := [(17, (.bool ((c.kind != 6) && (c.kind != 8)))), (4, (.slice none 0 0)), (3, (.pointer (some ⟨b1, 0, none⟩))), (0, (.pointer (some ⟨b, 0, none⟩)))]) (l' := [(pts b (.cells #[(.map (some mb)), (.int .u64 (tok : Int))] 195 (0, 0))), (mp encS mb (l.map ptrE)), (all lockE l), (pts b1 (.cells #[(.int .i64 c.kind), (.int .i64 c.session), (.int .i64 c.seq), (.string (ba c.name)), (.int .i64 c.n)] 24 (0, 0))), F]) rfl rfl ?_
        refine dj_v (np_then np_body) (ov_move rfl rfl) rfl rfl rfl (sat_sub [0, 1, 3] [2, 4] (by decide +kernel) rfl rfl) ?_
        refine dj_v (np_then np_body) (ov_nilCheck rfl rfl) rfl rfl rfl (sat_sub [0, 1, 3] [2, 4] (by decide +kernel) rfl rfl) ?_
        refine dj_v (np_then np_body) (ov_fieldAddr rfl rfl T_f195_0) rfl rfl rfl (sat_sub [0, 1, 3] [2, 4] (by decide +kernel) rfl rfl) ?_
        refine dj_v (np_then np_body) (ov_load1 (v := (.map (some mb))) rfl rfl T_o193 (rd_pts (i := 0) rfl rfl)) rfl rfl rfl (sat_sub [0, 1, 3] [2, 4] (by decide +kernel) rfl rfl) ?_
        refine dj_e (oe_of_v (ov_fieldAddr rfl rfl T_f24_3)) rfl rfl rfl (.inr (fun _ => sat_sub [0, 1, 3] [2, 4] (by decide +kernel) rfl rfl)) (fun _ => ?_)
        refine dj_e (oe_of_v (ov_load1 (v := (.string (ba c.name))) rfl rfl T_o9 (rd_pts (i := 3) rfl rfl))) rfl rfl rfl (.inr (fun _ => sat_sub [0, 1, 3] [2, 4] (by decide +kernel) rfl rfl)) (fun _ => ?_)
        refine dj_e (oe_of_v (ov_lookup (i := 1) (k := c.name) (κ := encS) rfl rfl rfl Try.underlying193 Try.underlying9 T_z198 rfl)) rfl rfl rfl (.inr (fun _ => sat_sub [0, 1, 3] [2, 4] (by decide +kernel) rfl rfl)) (fun _ => ?_)
        refine dj_head (v' := (.pointer none)) (by rw [hnk]; rfl) ?_
        refine dj_e (oe_of_v (ov_assign rfl rfl)) rfl rfl rfl (.inr (fun _ => sat_sub [0, 1, 3] [2, 4] (by decide +kernel) rfl rfl)) (fun _ => ?_)
        refine dj_nil ?_
        refine xj_then ?_
        refine cj_weak (e' := [(5, (.pointer none)), (4, (.slice none 0 0)), (3, (.pointer (some ⟨b1, 0, none⟩))), (0, (.pointer (some ⟨b, 0, none⟩)))]) (EnvLe.cons rfl (EnvLe.cons rfl (EnvLe.cons rfl (EnvLe.cons rfl (EnvLe.nil _))))) (fun _ h => h) ?_
        refine cj_seq ?_
        refine cj_seq ?_
        refine cj_pass (e' := [(46, (.bool true)), (5, (.pointer none)), (4, (.slice none 0 0)), (3, (.pointer (some ⟨b1, 0, none⟩))), (0, (.pointer (some ⟨b, 0, none⟩)))]) (l' := [(pts b (.cells #[(.map (some mb)), (.int .u64 (tok : Int))] 195 (0, 0))), (mp encS mb (l.map ptrE)), (all lockE l), (pts b1 (.cells #[(.int .i64 c.kind), (.int .i64 c.session), (.int .i64 c.seq), (.string (ba c.name)), (.int .i64 c.n)] 24 (0, 0))), F]) ?_ ?_
        · refine cj_sched [] [] [(0, false), (1, false), (2, false), (3, true), (4, true), (5, true), (6, true), (7, false), (8, false), (9, false), (10, false), (11, false), (12, false), (13, true), (14, true), (15, true), (16, true), (17, false), (18, false), (19, false), (20, false), (21, false)] T_mixed (by decide +kernel) rfl ?_
          refine dj_eq (e' := [(5, (.pointer none)), (4, (.slice none 0 0)), (3, (.pointer (some ⟨b1, 0, none⟩))), (0, (.pointer (some ⟨b, 0, none⟩)))]) (l' := [(pts b (.cells #[(.map (some mb)), (.int .u64 (tok : Int))] 195 (0, 0))), (mp encS mb (l.map ptrE)), (all lockE l), (pts b1 (.cells #[(.int .i64 c.kind), (.int .i64 c.session), (.int .i64 c.seq), (.string (ba c.name)), (.int .i64 c.n)] 24 (0, 0))), F]) rfl rfl ?_
          refine dj_e (oe_of_v (ov_move rfl rfl)) rfl rfl rfl (.inr (fun _ => sat_sub [] [0, 1, 2, 3, 4] (by decide +kernel) rfl rfl)) (fun _ => ?_)
          refine dj_e (oe_of_v (ov_peql rfl rfl rfl Try.underlying198)) rfl rfl rfl (.inr (fun _ => sat_sub [] [0, 1, 2, 3, 4] (by decide +kernel) rfl rfl)) (fun _ => ?_)
          refine dj_e (oe_of_v (ov_move rfl rfl)) rfl rfl rfl (.inr (fun _ => sat_sub [] [0, 1, 2, 3, 4] (by decide +kernel) rfl rfl)) (fun _ => ?_)
          refine dj_skip np_pass rfl rfl rfl (sat_sub [] [0, 1, 2, 3, 4] (by decide +kernel) rfl rfl) ?_
          refine dj_skip np_pass rfl rfl rfl (sat_sub [] [0, 1, 2, 3, 4] (by decide +kernel) rfl rfl) ?_
          refine dj_skip np_pass rfl rfl rfl (sat_sub [] [0, 1, 2, 3, 4] (by decide +kernel) rfl rfl) ?_
          refine dj_skip np_pass rfl rfl rfl (sat_sub [] [0, 1, 2, 3, 4] (by decide +kernel) rfl rfl) ?_
          refine dj_skipE rfl rfl rfl (sat_sub [] [0, 1, 2, 3, 4] (by decide +kernel) rfl rfl) ?_
          refine dj_skipE rfl rfl rfl (sat_sub [] [0, 1, 2, 3, 4] (by decide +kernel) rfl rfl) ?_
          refine dj_skipE rfl rfl rfl (sat_sub [] [0, 1, 2, 3, 4] (by decide +kernel) rfl rfl) ?_
          refine dj_skipE rfl rfl rfl (sat_sub [] [0, 1, 2, 3, 4] (by decide +kernel) rfl rfl) ?_
          refine dj_e (oe_of_v (ov_pick rfl rfl rfl rfl)) rfl rfl rfl (.inr (fun _ => sat_sub [] [0, 1, 2, 3, 4] (by decide +kernel) rfl rfl)) (fun _ => ?_)
          refine dj_e (oe_of_v (ov_move rfl rfl)) rfl rfl rfl (.inr (fun _ => sat_sub [] [0, 1, 2, 3, 4] (by decide +kernel) rfl rfl)) (fun _ => ?_)
          refine dj_skip np_pass rfl rfl rfl (sat_sub [] [0, 1, 2, 3, 4] (by decide +kernel) rfl rfl) ?_
          refine dj_skip np_pass rfl rfl rfl (sat_sub [] [0, 1, 2, 3, 4] (by decide +kernel) rfl rfl) ?_
          refine dj_skip np_pass rfl rfl rfl (sat_sub [] [0, 1, 2, 3, 4] (by decide +kernel) rfl rfl) ?_
          refine dj_skip np_pass rfl rfl rfl (sat_sub [] [0, 1, 2, 3, 4] (by decide +kernel) rfl rfl) ?_
          refine dj_skipE rfl rfl rfl (sat_sub [] [0, 1, 2, 3, 4] (by decide +kernel) rfl rfl) ?_
          refine dj_skipE rfl rfl rfl (sat_sub [] [0, 1, 2, 3, 4] (by decide +kernel) rfl rfl) ?_
          refine dj_skipE rfl rfl rfl (sat_sub [] [0, 1, 2, 3, 4] (by decide +kernel) rfl rfl) ?_
          refine dj_skipE rfl rfl rfl (sat_sub [] [0, 1, 2, 3, 4] (by decide +kernel) rfl rfl) ?_
          refine dj_e (oe_of_v (ov_pick rfl rfl rfl rfl)) rfl rfl rfl (.inr (fun _ => sat_sub [] [0, 1, 2, 3, 4] (by decide +kernel) rfl rfl)) (fun _ => ?_)
          refine dj_nil ?_
          exact xj_pass (EnvLe.cons rfl (EnvLe.cons rfl (EnvLe.cons rfl (EnvLe.cons rfl (EnvLe.cons rfl (EnvLe.nil _)))))) (fun _ h => h)
        · refine xj_then ?_
          refine cj_true rfl ?_
          refine cj_seq ?_
          refine cj_region ?_
          refine oj_v (ov_loadn (cs := [(.int .i64 c.kind), (.int .i64 c.session), (.int .i64 c.seq), (.string (ba c.name)), (.int .i64 c.n)]) rfl rfl T_a24 (rds_pts (i := 3) rfl rfl)) rfl rfl rfl ?_
          refine oj_e (oe_call rfl rfl rfl Try.func121 rfl rfl (rest := [(pts b (.cells #[(.map (some mb)), (.int .u64 (tok : Int))] 195 (0, 0))), (mp encS mb (l.map ptrE)), (all lockE l), (pts b1 (.cells #[(.int .i64 c.kind), (.int .i64 c.session), (.int .i64 c.seq), (.string (ba c.name)), (.int .i64 c.n)] 24 (0, 0))), F]) (lk_one c 13) (js := [0, 1, 2, 3, 4]) ⟨by decide +kernel, rfl, rfl⟩) rfl rfl rfl (fun q13 => ?_)
          refine oj_eq (e' := [(48, (.slice q13.1 ((oneR c 13).length) q13.2)), (47, (.agg #[(.int .i64 c.kind), (.int .i64 c.session), (.int .i64 c.seq), (.string (ba c.name)), (.int .i64 c.n)])), (46, (.bool true)), (5, (.pointer none)), (4, (.slice none 0 0)), (3, (.pointer (some ⟨b1, 0, none⟩))), (0, (.pointer (some ⟨b, 0, none⟩)))]) (l' := [(sl 56 5 q13.1 ((oneR c 13).length) q13.2 ((oneR c 13).flatMap encR)), (pts b (.cells #[(.map (some mb)), (.int .u64 (tok : Int))] 195 (0, 0))), (mp encS mb (l.map ptrE)), (all lockE l), (pts b1 (.cells #[(.int .i64 c.kind), (.int .i64 c.session), (.int .i64 c.seq), (.string (ba c.name)), (.int .i64 c.n)] 24 (0, 0))), F]) rfl rfl ?_
          obtain ⟨qa, qc⟩ := q13
          refine oj_eq (e' := [(48, (.slice qa ((oneR c 13).length) qc)), (47, (.agg #[(.int .i64 c.kind), (.int .i64 c.session), (.int .i64 c.seq), (.string (ba c.name)), (.int .i64 c.n)])), (46, (.bool true)), (5, (.pointer none)), (4, (.slice none 0 0)), (3, (.pointer (some ⟨b1, 0, none⟩))), (0, (.pointer (some ⟨b, 0, none⟩)))]) (l' := [(sl 56 5 qa ((oneR c 13).length) qc ((oneR c 13).flatMap encR)), (pts b (.cells #[(.map (some mb)), (.int .u64 (tok : Int))] 195 (0, 0))), (mp encS mb (l.map ptrE)), (all lockE l), (pts b1 (.cells #[(.int .i64 c.kind), (.int .i64 c.session), (.int .i64 c.seq), (.string (ba c.name)), (.int .i64 c.n)] 24 (0, 0))), F]) rfl rfl ?_
          refine oj_v (ov_assign rfl rfl) rfl rfl rfl ?_
          refine oj_nil ?_
          refine xj_then ?_
          refine cj_weak (e' := [(4, (.slice qa ((oneR c 13).length) qc)), (5, (.pointer none)), (3, (.pointer (some ⟨b1, 0, none⟩))), (0, (.pointer (some ⟨b, 0, none⟩)))]) (EnvLe.cons rfl (EnvLe.cons rfl (EnvLe.cons rfl (EnvLe.cons rfl (EnvLe.nil _))))) (fun _ h => h) ?_
          refine cj_ret ?_
          refine xj_then_other (by simp) ?_
          rw [rel_none (kind_of h5) hget]
          refine xj_ret (vs := [(.slice qa ((oneR c 13).length) qc)]) (qa, qc) rfl rfl ?_
          exact fun h hs => (fun h hs => Sat.tail_mono (locks_close f12) hs) h (sat_sub (l' := [(sl 56 5 qa ((oneR c 13).length) qc ((oneR c 13).flatMap encR)), (pts b (.cells #[(.map (some mb)), (.int .u64 (tok : Int))] 195 (0, 0))), (mp encS mb (l.map ptrE)), (all lockE l), F]) [0, 1, 2, 3, 5] [4] (by decide +kernel) rfl rfl h hs)
      · obtain ⟨p, hpl, hpk⟩ := find_yes f12 hget
        have hxo : okX n x0 := hm.get hget
        have hxl := hxo.2
        refine cj_sat (l' := [(LockR x0 p), (all lockE (adel c.name l)), (pts b (.cells #[(.map (some mb)), (.int .u64 (tok : Int))] 195 (0, 0))), (mp encS mb (l.map ptrE)), (pts b1 (.cells #[(.int .i64 c.kind), (.int .i64 c.session), (.int .i64 c.seq), (.string (ba c.name)), (.int .i64 c.n)] 24 (0, 0))), F]) (fun h hs => (locks_take hrl hpl) h (sat_js (l' := [(all lockE l), (pts b (.cells #[(.map (some mb)), (.int .u64 (tok : Int))] 195 (0, 0))), (mp encS mb (l.map ptrE)), (pts b1 (.cells #[(.int .i64 c.kind), (.int .i64 c.session), (.int .i64 c.seq), (.string (ba c.name)), (.int .i64 c.n)] 24 (0, 0))), F]) [2, 0, 1, 3, 4] (by decide +kernel) rfl rfl h hs)) ?_
        refine cj_sched [(pts b (.cells #[(.map (some mb)), (.int .u64 (tok : Int))] 195 (0, 0))), (mp encS mb (l.map ptrE)), (pts b1 (.cells #[(.int .i64 c.kind), (.int .i64 c.session), (.int .i64 c.seq), (.string (ba c.name)), (.int .i64 c.n)] 24 (0, 0)))] [] [(0, true), (1, true), (2, true), (3, true), (4, false), (5, false), (6, false), (7, false)] T_mixed (by decide +kernel) rfl ?_
        refine dj_eq (e' := [(17, (.bool ((c.kind != 6) && (c.kind != 8)))), (4, (.slice none 0 0)), (3, (.pointer (some ⟨b1, 0, none⟩))), (0, (.pointer (some ⟨b, 0, none⟩)))]) (l' := [(LockR x0 p), (all lockE (adel c.name l)), (pts b (.cells #[(.map (some mb)), (.int .u64 (tok : Int))] 195 (0, 0))), (mp encS mb (l.map ptrE)), (pts b1 (.cells #[(.int .i64 c.kind), (.int .i64 c.session), (.int .i64 c.seq), (.string (ba c.name)), (.int .i64 c.n)] 24 (0, 0))), F]) rfl rfl ?_
        refine dj_v (np_then np_body) (ov_move rfl rfl) rfl rfl rfl (sat_sub [2, 3, 4] [0, 1, 5] (by decide +kernel) rfl rfl) ?_
        refine dj_v (np_then np_body) (ov_nilCheck rfl rfl) rfl rfl rfl (sat_sub [2, 3, 4] [0, 1, 5] (by decide +kernel) rfl rfl) ?_
        refine dj_v (np_then np_body) (ov_fieldAddr rfl rfl T_f195_0) rfl rfl rfl (sat_sub [2, 3, 4] [0, 1, 5] (by decide +kernel) rfl rfl) ?_
        refine dj_v (np_then np_body) (ov_load1 (v := (.map (some mb))) rfl rfl T_o193 (rd_pts (i := 0) rfl rfl)) rfl rfl rfl (sat_sub [2, 3, 4] [0, 1, 5] (by decide +kernel) rfl rfl) ?_
        refine dj_e (oe_of_v (ov_fieldAddr rfl rfl T_f24_3)) rfl rfl rfl (.inr (fun _ => sat_sub [2, 3, 4] [0, 1, 5] (by decide +kernel) rfl rfl)) (fun _ => ?_)
        refine dj_e (oe_of_v (ov_load1 (v := (.string (ba c.name))) rfl rfl T_o9 (rd_pts (i := 4) rfl rfl))) rfl rfl rfl (.inr (fun _ => sat_sub [2, 3, 4] [0, 1, 5] (by decide +kernel) rfl rfl)) (fun _ => ?_)
        refine dj_e (oe_of_v (ov_lookup (i := 3) (k := c.name) (κ := encS) rfl rfl rfl Try.underlying193 Try.underlying9 T_z198 rfl)) rfl rfl rfl (.inr (fun _ => sat_sub [2, 3, 4] [0, 1, 5] (by decide +kernel) rfl rfl)) (fun _ => ?_)
        refine dj_head (v' := (.pointer (some ⟨p, 0, none⟩))) (by rw [hpk]; rfl) ?_
        refine dj_e (oe_of_v (ov_assign rfl rfl)) rfl rfl rfl (.inr (fun _ => sat_sub [2, 3, 4] [0, 1, 5] (by decide +kernel) rfl rfl)) (fun _ => ?_)
        refine dj_nil ?_
        refine xj_then ?_
        refine cj_weak (e' := [(5, (.pointer (some ⟨p, 0, none⟩))), (4, (.slice none 0 0)), (3, (.pointer (some ⟨b1, 0, none⟩))), (0, (.pointer (some ⟨b, 0, none⟩)))]) (EnvLe.cons rfl (EnvLe.cons rfl (EnvLe.cons rfl (EnvLe.cons rfl (EnvLe.nil _))))) (fun _ h => h) ?_
        refine cj_seq ?_
        refine cj_seq ?_
        refine cj_out (sat_open 0 rfl) (fun x14 => ?_)
        obtain ⟨ha, hc, wa, wc⟩ := x14
        refine cj_eq (e' := [(5, (.pointer (some ⟨p, 0, none⟩))), (4, (.slice none 0 0)), (3, (.pointer (some ⟨b1, 0, none⟩))), (0, (.pointer (some ⟨b, 0, none⟩)))]) (l' := [(pts p (.cells #[(.slice ha x0.held.length hc), (.bool x0.writer), (.slice wa x0.queue.length wc)] 202 (0, 0))), (sl 3 1 ha x0.held.length hc (x0.held.flatMap ei)), (sl 197 3 wa x0.queue.length wc (x0.queue.flatMap encW)), (all lockE (adel c.name l)), (pts b (.cells #[(.map (some mb)), (.int .u64 (tok : Int))] 195 (0, 0))), (mp encS mb (l.map ptrE)), (pts b1 (.cells #[(.int .i64 c.kind), (.int .i64 c.session), (.int .i64 c.seq), (.string (ba c.name)), (.int .i64 c.n)] 24 (0, 0))), F]) rfl rfl ?_
        refine cj_pass (e' := [(46, (.bool ((!(x0.writer == (c.kind == 6))) || (!(x0.held.any (fun y => c.session == y)))))), (5, (.pointer (some ⟨p, 0, none⟩))), (4, (.slice none 0 0)), (3, (.pointer (some ⟨b1, 0, none⟩))), (0, (.pointer (some ⟨b, 0, none⟩)))]) (l' := [(pts p (.cells #[(.slice ha x0.held.length hc), (.bool x0.writer), (.slice wa x0.queue.length wc)] 202 (0, 0))), (sl 3 1 ha x0.held.length hc (x0.held.flatMap ei)), (sl 197 3 wa x0.queue.length wc (x0.queue.flatMap encW)), (all lockE (adel c.name l)), (pts b (.cells #[(.map (some mb)), (.int .u64 (tok : Int))] 195 (0, 0))), (mp encS mb (l.map ptrE)), (pts b1 (.cells #[(.int .i64 c.kind), (.int .i64 c.session), (.int .i64 c.seq), (.string (ba c.name)), (.int .i64 c.n)] 24 (0, 0))), F]) ?_ ?_
        · refine cj_sched [(pts p (.cells #[(.slice ha x0.held.length hc), (.bool x0.writer), (.slice wa x0.queue.length wc)] 202 (0, 0))), (pts b1 (.cells #[(.int .i64 c.kind), (.int .i64 c.session), (.int .i64 c.seq), (.string (ba c.name)), (.int .i64 c.n)] 24 (0, 0)))] [] [(0, false), (1, false), (2, false), (3, true), (4, true), (5, true), (6, true), (7, false), (8, false), (9, false), (10, false), (11, false), (12, false), (13, true), (14, true), (15, true), (16, true), (17, false), (18, false), (19, false), (20, false), (21, false)] T_mixed (by decide +kernel) rfl ?_
          refine dj_eq (e' := [(5, (.pointer (some ⟨p, 0, none⟩))), (4, (.slice none 0 0)), (3, (.pointer (some ⟨b1, 0, none⟩))), (0, (.pointer (some ⟨b, 0, none⟩)))]) (l' := [(pts p (.cells #[(.slice ha x0.held.length hc), (.bool x0.writer), (.slice wa x0.queue.length wc)] 202 (0, 0))), (sl 3 1 ha x0.held.length hc (x0.held.flatMap ei)), (sl 197 3 wa x0.queue.length wc (x0.queue.flatMap encW)), (all lockE (adel c.name l)), (pts b (.cells #[(.map (some mb)), (.int .u64 (tok : Int))] 195 (0, 0))), (mp encS mb (l.map ptrE)), (pts b1 (.cells #[(.int .i64 c.kind), (.int .i64 c.session), (.int .i64 c.seq), (.string (ba c.name)), (.int .i64 c.n)] 24 (0, 0))), F]) rfl rfl ?_
          refine dj_e (oe_of_v (ov_move rfl rfl)) rfl rfl rfl (.inr (fun _ => sat_sub [0, 6] [1, 2, 3, 4, 5, 7] (by decide +kernel) rfl rfl)) (fun _ => ?_)
          refine dj_e (oe_of_v (ov_peql rfl rfl rfl Try.underlying198)) rfl rfl rfl (.inr (fun _ => sat_sub [0, 6] [1, 2, 3, 4, 5, 7] (by decide +kernel) rfl rfl)) (fun _ => ?_)
          refine dj_e (oe_of_v (ov_move rfl rfl)) rfl rfl rfl (.inr (fun _ => sat_sub [0, 6] [1, 2, 3, 4, 5, 7] (by decide +kernel) rfl rfl)) (fun _ => ?_)
          refine dj_v np_pass (ov_move rfl rfl) rfl rfl rfl (sat_sub [0, 6] [1, 2, 3, 4, 5, 7] (by decide +kernel) rfl rfl) ?_
          refine dj_v np_pass (ov_nilCheck rfl rfl) rfl rfl rfl (sat_sub [0, 6] [1, 2, 3, 4, 5, 7] (by decide +kernel) rfl rfl) ?_
          refine dj_v np_pass (ov_fieldAddr rfl rfl T_f202_1) rfl rfl rfl (sat_sub [0, 6] [1, 2, 3, 4, 5, 7] (by decide +kernel) rfl rfl) ?_
          refine dj_v np_pass (ov_load1 (v := (.bool x0.writer)) rfl rfl T_o4 (rd_pts (i := 0) rfl rfl)) rfl rfl rfl (sat_sub [0, 6] [1, 2, 3, 4, 5, 7] (by decide +kernel) rfl rfl) ?_
          refine dj_e (oe_of_v (ov_fieldAddr rfl rfl T_f24_0)) rfl rfl rfl (.inr (fun _ => sat_sub [0, 6] [1, 2, 3, 4, 5, 7] (by decide +kernel) rfl rfl)) (fun _ => ?_)
          refine dj_e (oe_of_v (ov_load1 (v := (.int .i64 c.kind)) rfl rfl T_o3 (rd_pts (i := 6) rfl rfl))) rfl rfl rfl (.inr (fun _ => sat_sub [0, 6] [1, 2, 3, 4, 5, 7] (by decide +kernel) rfl rfl)) (fun _ => ?_)
          refine dj_e (oe_of_v (ov_eql rfl rfl rfl)) rfl rfl rfl (.inr (fun _ => sat_sub [0, 6] [1, 2, 3, 4, 5, 7] (by decide +kernel) rfl rfl)) (fun _ => ?_)
          refine dj_e (oe_of_v (ov_bneq rfl rfl rfl Try.underlying4)) rfl rfl rfl (.inr (fun _ => sat_sub [0, 6] [1, 2, 3, 4, 5, 7] (by decide +kernel) rfl rfl)) (fun _ => ?_)
          refine dj_e (oe_of_v (ov_pick rfl rfl rfl rfl)) rfl rfl rfl (.inr (fun _ => sat_sub [0, 6] [1, 2, 3, 4, 5, 7] (by decide +kernel) rfl rfl)) (fun _ => ?_)
          refine dj_e (oe_of_v (ov_move rfl rfl)) rfl rfl rfl (.inr (fun _ => sat_sub [0, 6] [1, 2, 3, 4, 5, 7] (by decide +kernel) rfl rfl)) (fun _ => ?_)
          refine dj_case (fun h15 => ?_) (fun h15 => ?_)
          · have h16 : (x0.writer == (c.kind == 6)) = false := by simpa using h15
            have c17 := h16
            refine dj_skip np_pass rfl rfl rfl (sat_sub [0, 6] [1, 2, 3, 4, 5, 7] (by decide +kernel) rfl rfl) ?_
            refine dj_skip np_pass rfl rfl rfl (sat_sub [0, 6] [1, 2, 3, 4, 5, 7] (by decide +kernel) rfl rfl) ?_
            refine dj_skip np_pass rfl rfl rfl (sat_sub [0, 6] [1, 2, 3, 4, 5, 7] (by decide +kernel) rfl rfl) ?_
            refine dj_skip np_pass rfl rfl rfl (sat_sub [0, 6] [1, 2, 3, 4, 5, 7] (by decide +kernel) rfl rfl) ?_
            refine dj_skipE rfl rfl rfl (sat_sub [0, 6] [1, 2, 3, 4, 5, 7] (by decide +kernel) rfl rfl) ?_
            refine dj_skipE rfl rfl rfl (sat_sub [0, 6] [1, 2, 3, 4, 5, 7] (by decide +kernel) rfl rfl) ?_
            refine dj_skipE rfl rfl rfl (sat_sub [0, 6] [1, 2, 3, 4, 5, 7] (by decide +kernel) rfl rfl) ?_
            refine dj_skipE rfl rfl rfl (sat_sub [0, 6] [1, 2, 3, 4, 5, 7] (by decide +kernel) rfl rfl) ?_
            refine dj_e (oe_of_v (ov_pick rfl rfl rfl rfl)) rfl rfl rfl (.inr (fun _ => sat_sub [0, 6] [1, 2, 3, 4, 5, 7] (by decide +kernel) rfl rfl)) (fun _ => ?_)
            refine dj_nil ?_
            exact xj_pass (EnvLe.cons (by first | (simp [look, h15]; done) | (simp [look, h15]; omega) | (simp [look, h15]; intros; omega)) (EnvLe.cons rfl (EnvLe.cons rfl (EnvLe.cons rfl (EnvLe.cons rfl (EnvLe.nil _)))))) (fun _ h => h)
          · have h18 : (x0.writer == (c.kind == 6)) = true := by simpa using h15
            have c19 := h18
            refine dj_v np_pass (ov_move rfl rfl) rfl rfl rfl (sat_sub [0, 6] [1, 2, 3, 4, 5, 7] (by decide +kernel) rfl rfl) ?_
            refine dj_v np_pass (ov_nilCheck rfl rfl) rfl rfl rfl (sat_sub [0, 6] [1, 2, 3, 4, 5, 7] (by decide +kernel) rfl rfl) ?_
            refine dj_v np_pass (ov_fieldAddr rfl rfl T_f202_0) rfl rfl rfl (sat_sub [0, 6] [1, 2, 3, 4, 5, 7] (by decide +kernel) rfl rfl) ?_
            refine dj_v np_pass (ov_load1 (v := (.slice ha x0.held.length hc)) rfl rfl T_o72 (rd_pts (i := 0) rfl rfl)) rfl rfl rfl (sat_sub [0, 6] [1, 2, 3, 4, 5, 7] (by decide +kernel) rfl rfl) ?_
            refine dj_e (oe_of_v (ov_fieldAddr rfl rfl T_f24_1)) rfl rfl rfl (.inr (fun _ => sat_sub [0, 6] [1, 2, 3, 4, 5, 7] (by decide +kernel) rfl rfl)) (fun _ => ?_)
            refine dj_e (oe_of_v (ov_load1 (v := (.int .i64 c.session)) rfl rfl T_o3 (rd_pts (i := 6) rfl rfl))) rfl rfl rfl (.inr (fun _ => sat_sub [0, 6] [1, 2, 3, 4, 5, 7] (by decide +kernel) rfl rfl)) (fun _ => ?_)
            refine dj_e (oe_call rfl rfl rfl Try.func124 rfl rfl (rest := [(pts p (.cells #[(.slice ha x0.held.length hc), (.bool x0.writer), (.slice wa x0.queue.length wc)] 202 (0, 0))), (sl 197 3 wa x0.queue.length wc (x0.queue.flatMap encW)), (all lockE (adel c.name l)), (pts b (.cells #[(.map (some mb)), (.int .u64 (tok : Int))] 195 (0, 0))), (mp encS mb (l.map ptrE)), (pts b1 (.cells #[(.int .i64 c.kind), (.int .i64 c.session), (.int .i64 c.seq), (.string (ba c.name)), (.int .i64 c.n)] 24 (0, 0))), F]) (lib_contains_int ha hc x0.held c.session (by omega)) (js := [1, 0, 2, 3, 4, 5, 6, 7]) ⟨by decide +kernel, rfl, rfl⟩) rfl rfl rfl (.inr (fun _ => sat_sub [1, 6] [0, 2, 3, 4, 5, 7] (by decide +kernel) rfl rfl)) (fun _ => ?_)
            refine dj_eq (e' := [(44, (.bool (x0.held.any (fun y => c.session == y)))), (43, (.int .i64 c.session)), (42, (.pointer (some ⟨b1, 1, none⟩))), (41, (.slice ha x0.held.length hc)), (40, (.pointer (some ⟨p, 0, none⟩))), (39, (.pointer (some ⟨p, 0, none⟩))), (38, (.pointer (some ⟨p, 0, none⟩))), (37, (.bool false)), (36, (.bool (!(x0.writer == (c.kind == 6))))), (35, (.bool (!(x0.writer == (c.kind == 6))))), (34, (.bool (c.kind == 6))), (33, (.int .i64 c.kind)), (32, (.pointer (some ⟨b1, 0, none⟩))), (31, (.bool x0.writer)), (30, (.pointer (some ⟨p, 1, none⟩))), (29, (.pointer (some ⟨p, 0, none⟩))), (28, (.pointer (some ⟨p, 0, none⟩))), (27, (.bool false)), (26, (.bool false)), (25, (.pointer (some ⟨p, 0, none⟩))), (5, (.pointer (some ⟨p, 0, none⟩))), (4, (.slice none 0 0)), (3, (.pointer (some ⟨b1, 0, none⟩))), (0, (.pointer (some ⟨b, 0, none⟩)))]) (l' := [(sl 3 1 ha x0.held.length hc (x0.held.flatMap ei)), (pts p (.cells #[(.slice ha x0.held.length hc), (.bool x0.writer), (.slice wa x0.queue.length wc)] 202 (0, 0))), (sl 197 3 wa x0.queue.length wc (x0.queue.flatMap encW)), (all lockE (adel c.name l)), (pts b (.cells #[(.map (some mb)), (.int .u64 (tok : Int))] 195 (0, 0))), (mp encS mb (l.map ptrE)), (pts b1 (.cells #[(.int .i64 c.kind), (.int .i64 c.session), (.int .i64 c.seq), (.string (ba c.name)), (.int .i64 c.n)] 24 (0, 0))), F]) rfl rfl ?_
            refine dj_e (oe_of_v (ov_not rfl rfl)) rfl rfl rfl (.inr (fun _ => sat_sub [1, 6] [0, 2, 3, 4, 5, 7] (by decide +kernel) rfl rfl)) (fun _ => ?_)
            refine dj_e (oe_of_v (ov_pick rfl rfl rfl rfl)) rfl rfl rfl (.inr (fun _ => sat_sub [1, 6] [0, 2, 3, 4, 5, 7] (by decide +kernel) rfl rfl)) (fun _ => ?_)
            refine dj_nil ?_
            exact xj_pass (EnvLe.cons (by first | (simp [look, h15]; done) | (simp [look, h15]; omega) | (simp [look, h15]; intros; omega)) (EnvLe.cons rfl (EnvLe.cons rfl (EnvLe.cons rfl (EnvLe.cons rfl (EnvLe.nil _)))))) (sat_js [1, 0, 2, 3, 4, 5, 6, 7] (by decide +kernel) rfl rfl)
        · refine xj_then ?_
          refine cj_cond (b := (!(x0.writer == (c.kind == 6))) || (!(x0.held.any (fun y => c.session == y)))) rfl (fun h20 => ?_) (fun h20 => ?_)
          · have c21 := Bool.or_eq_true_iff.1 h20
            refine cj_seq ?_
            refine cj_region ?_
            refine oj_v (ov_loadn (cs := [(.int .i64 c.kind), (.int .i64 c.session), (.int .i64 c.seq), (.string (ba c.name)), (.int .i64 c.n)]) rfl rfl T_a24 (rds_pts (i := 6) rfl rfl)) rfl rfl rfl ?_
            refine oj_e (oe_call rfl rfl rfl Try.func121 rfl rfl (rest := [(pts p (.cells #[(.slice ha x0.held.length hc), (.bool x0.writer), (.slice wa x0.queue.length wc)] 202 (0, 0))), (sl 3 1 ha x0.held.length hc (x0.held.flatMap ei)), (sl 197 3 wa x0.queue.length wc (x0.queue.flatMap encW)), (all lockE (adel c.name l)), (pts b (.cells #[(.map (some mb)), (.int .u64 (tok : Int))] 195 (0, 0))), (mp encS mb (l.map ptrE)), (pts b1 (.cells #[(.int .i64 c.kind), (.int .i64 c.session), (.int .i64 c.seq), (.string (ba c.name)), (.int .i64 c.n)] 24 (0, 0))), F]) (lk_one c 13) (js := [0, 1, 2, 3, 4, 5, 6, 7]) ⟨by decide +kernel, rfl, rfl⟩) rfl rfl rfl (fun q22 => ?_)
            refine oj_eq (e' := [(48, (.slice q22.1 ((oneR c 13).length) q22.2)), (47, (.agg #[(.int .i64 c.kind), (.int .i64 c.session), (.int .i64 c.seq), (.string (ba c.name)), (.int .i64 c.n)])), (46, (.bool ((!(x0.writer == (c.kind == 6))) || (!(x0.held.any (fun y => c.session == y)))))), (5, (.pointer (some ⟨p, 0, none⟩))), (4, (.slice none 0 0)), (3, (.pointer (some ⟨b1, 0, none⟩))), (0, (.pointer (some ⟨b, 0, none⟩)))]) (l' := [(sl 56 5 q22.1 ((oneR c 13).length) q22.2 ((oneR c 13).flatMap encR)), (pts p (.cells #[(.slice ha x0.held.length hc), (.bool x0.writer), (.slice wa x0.queue.length wc)] 202 (0, 0))), (sl 3 1 ha x0.held.length hc (x0.held.flatMap ei)), (sl 197 3 wa x0.queue.length wc (x0.queue.flatMap encW)), (all lockE (adel c.name l)), (pts b (.cells #[(.map (some mb)), (.int .u64 (tok : Int))] 195 (0, 0))), (mp encS mb (l.map ptrE)), (pts b1 (.cells #[(.int .i64 c.kind), (.int .i64 c.session), (.int .i64 c.seq), (.string (ba c.name)), (.int .i64 c.n)] 24 (0, 0))), F]) rfl rfl ?_
            obtain ⟨qa, qc⟩ := q22
            refine oj_eq (e' := [(48, (.slice qa ((oneR c 13).length) qc)), (47, (.agg #[(.int .i64 c.kind), (.int .i64 c.session), (.int .i64 c.seq), (.string (ba c.name)), (.int .i64 c.n)])), (46, (.bool ((!(x0.writer == (c.kind == 6))) || (!(x0.held.any (fun y => c.session == y)))))), (5, (.pointer (some ⟨p, 0, none⟩))), (4, (.slice none 0 0)), (3, (.pointer (some ⟨b1, 0, none⟩))), (0, (.pointer (some ⟨b, 0, none⟩)))]) (l' := [(sl 56 5 qa ((oneR c 13).length) qc ((oneR c 13).flatMap encR)), (pts p (.cells #[(.slice ha x0.held.length hc), (.bool x0.writer), (.slice wa x0.queue.length wc)] 202 (0, 0))), (sl 3 1 ha x0.held.length hc (x0.held.flatMap ei)), (sl 197 3 wa x0.queue.length wc (x0.queue.flatMap encW)), (all lockE (adel c.name l)), (pts b (.cells #[(.map (some mb)), (.int .u64 (tok : Int))] 195 (0, 0))), (mp encS mb (l.map ptrE)), (pts b1 (.cells #[(.int .i64 c.kind), (.int .i64 c.session), (.int .i64 c.seq), (.string (ba c.name)), (.int .i64 c.n)] 24 (0, 0))), F]) rfl rfl ?_
            refine oj_v (ov_assign rfl rfl) rfl rfl rfl ?_
            refine oj_nil ?_
            refine xj_then ?_
            refine cj_weak (e' := [(4, (.slice qa ((oneR c 13).length) qc)), (5, (.pointer (some ⟨p, 0, none⟩))), (3, (.pointer (some ⟨b1, 0, none⟩))), (0, (.pointer (some ⟨b, 0, none⟩)))]) (EnvLe.cons rfl (EnvLe.cons rfl (EnvLe.cons rfl (EnvLe.cons rfl (EnvLe.nil _))))) (fun _ h => h) ?_
            refine cj_ret ?_
            refine xj_then_other (by simp) ?_
            refine xj_sat (l' := [(LockR x0 p), (sl 56 5 qa ((oneR c 13).length) qc ((oneR c 13).flatMap encR)), (all lockE (adel c.name l)), (pts b (.cells #[(.map (some mb)), (.int .u64 (tok : Int))] 195 (0, 0))), (mp encS mb (l.map ptrE)), (pts b1 (.cells #[(.int .i64 c.kind), (.int .i64 c.session), (.int .i64 c.seq), (.string (ba c.name)), (.int .i64 c.n)] 24 (0, 0))), F]) (sat_close (r := [(sl 56 5 qa ((oneR c 13).length) qc ((oneR c 13).flatMap encR)), (all lockE (adel c.name l)), (pts b (.cells #[(.map (some mb)), (.int .u64 (tok : Int))] 195 (0, 0))), (mp encS mb (l.map ptrE)), (pts b1 (.cells #[(.int .i64 c.kind), (.int .i64 c.session), (.int .i64 c.seq), (.string (ba c.name)), (.int .i64 c.n)] 24 (0, 0))), F]) ⟨ha, hc, wa, wc⟩ [1, 2, 3, 0, 4, 5, 6, 7, 8] (by decide +kernel) rfl rfl rfl) ?_
            rw [rel_not (kind_of h5) hget (rel_cond h20)]
            refine xj_ret (vs := [(.slice qa ((oneR c 13).length) qc)]) (qa, qc) rfl rfl ?_
            exact fun h hs => (fun h hs => Sat.tail_mono (locks_back f12 hrl hpl) hs) h (sat_sub (l' := [(sl 56 5 qa ((oneR c 13).length) qc ((oneR c 13).flatMap encR)), (pts b (.cells #[(.map (some mb)), (.int .u64 (tok : Int))] 195 (0, 0))), (mp encS mb (l.map ptrE)), (LockR x0 p), (all lockE (adel c.name l)), F]) [1, 3, 4, 0, 2, 6] [5] (by decide +kernel) rfl rfl h hs)
          · obtain ⟨h23, h24⟩ := Bool.or_eq_false_iff.1 h20
            have h25 : (x0.writer == (c.kind == 6)) = true := by simpa using h23
            have c26 := h25
            have h27 : (x0.held.any (fun y => c.session == y)) = true := by simpa using h24
            have c28 := h27
            refine cj_skip ?_
            refine xj_then ?_
            refine cj_seq ?_
            refine cj_region ?_
            refine oj_v (ov_move rfl rfl) rfl rfl rfl ?_
            refine oj_v (ov_move rfl rfl) rfl rfl rfl ?_
            refine oj_v (ov_nilCheck rfl rfl) rfl rfl rfl ?_
            refine oj_v (ov_fieldAddr rfl rfl T_f202_0) rfl rfl rfl ?_
            refine oj_v (ov_load1 (v := (.slice ha x0.held.length hc)) rfl rfl T_o72 (rd_pts (i := 0) rfl rfl)) rfl rfl rfl ?_
            refine oj_v (ov_makeFunc rfl rfl rfl) rfl rfl rfl ?_
            refine oj_e (oe_call rfl rfl rfl Try.func125 rfl rfl (rest := [(pts p (.cells #[(.slice ha x0.held.length hc), (.bool x0.writer), (.slice wa x0.queue.length wc)] 202 (0, 0))), (sl 197 3 wa x0.queue.length wc (x0.queue.flatMap encW)), (all lockE (adel c.name l)), (pts b (.cells #[(.map (some mb)), (.int .u64 (tok : Int))] 195 (0, 0))), (mp encS mb (l.map ptrE)), F]) (lib_deleteFunc_int 126 Try.f126 (.pointer (some ⟨b1, 0, none⟩)) (pts b1 (.cells #[(.int .i64 c.kind), (.int .i64 c.session), (.int .i64 c.seq), (.string (ba c.name)), (.int .i64 c.n)] 24 (0, 0))) (fun y => y == c.session) Try.func126 rfl rfl (fun x => clo_rel b1 c x) ha hc x0.held (by omega)) (js := [1, 6, 0, 2, 3, 4, 5, 7]) ⟨by decide +kernel, rfl, rfl⟩) rfl rfl rfl (fun _ => ?_)
            refine oj_eq (e' := [(55, (.slice ha ((x0.held.filter (fun y => !(y == c.session))).length) hc)), (54, (.func (.func 126) #[] #[(.pointer (some ⟨b1, 0, none⟩))])), (53, (.slice ha x0.held.length hc)), (52, (.pointer (some ⟨p, 0, none⟩))), (51, (.pointer (some ⟨p, 0, none⟩))), (50, (.pointer (some ⟨p, 0, none⟩))), (49, (.pointer (some ⟨p, 0, none⟩))), (46, (.bool ((!(x0.writer == (c.kind == 6))) || (!(x0.held.any (fun y => c.session == y)))))), (5, (.pointer (some ⟨p, 0, none⟩))), (4, (.slice none 0 0)), (3, (.pointer (some ⟨b1, 0, none⟩))), (0, (.pointer (some ⟨b, 0, none⟩)))]) (l' := [(sl 3 1 ha ((x0.held.filter (fun y => !(y == c.session))).length) hc ((x0.held.filter (fun y => !(y == c.session))).flatMap ei)), (pts b1 (.cells #[(.int .i64 c.kind), (.int .i64 c.session), (.int .i64 c.seq), (.string (ba c.name)), (.int .i64 c.n)] 24 (0, 0))), (pts p (.cells #[(.slice ha x0.held.length hc), (.bool x0.writer), (.slice wa x0.queue.length wc)] 202 (0, 0))), (sl 197 3 wa x0.queue.length wc (x0.queue.flatMap encW)), (all lockE (adel c.name l)), (pts b (.cells #[(.map (some mb)), (.int .u64 (tok : Int))] 195 (0, 0))), (mp encS mb (l.map ptrE)), F]) rfl rfl ?_
            refine oj_v (ov_nilCheck rfl rfl) rfl rfl rfl ?_
            refine oj_v (ov_fieldAddr rfl rfl T_f202_0) rfl rfl rfl ?_
            refine oj_e0 (oe_store1 (i := 2) rfl rfl rfl T_o72 rfl rfl rfl) rfl rfl (fun _ => ?_)
            refine oj_eq (e' := [(57, (.pointer (some ⟨p, 0, none⟩))), (56, (.pointer (some ⟨p, 0, none⟩))), (55, (.slice ha ((x0.held.filter (fun y => !(y == c.session))).length) hc)), (54, (.func (.func 126) #[] #[(.pointer (some ⟨b1, 0, none⟩))])), (53, (.slice ha x0.held.length hc)), (52, (.pointer (some ⟨p, 0, none⟩))), (51, (.pointer (some ⟨p, 0, none⟩))), (50, (.pointer (some ⟨p, 0, none⟩))), (49, (.pointer (some ⟨p, 0, none⟩))), (46, (.bool ((!(x0.writer == (c.kind == 6))) || (!(x0.held.any (fun y => c.session == y)))))), (5, (.pointer (some ⟨p, 0, none⟩))), (4, (.slice none 0 0)), (3, (.pointer (some ⟨b1, 0, none⟩))), (0, (.pointer (some ⟨b, 0, none⟩)))]) (l' := [(sl 3 1 ha ((x0.held.filter (fun y => !(y == c.session))).length) hc ((x0.held.filter (fun y => !(y == c.session))).flatMap ei)), (pts b1 (.cells #[(.int .i64 c.kind), (.int .i64 c.session), (.int .i64 c.seq), (.string (ba c.name)), (.int .i64 c.n)] 24 (0, 0))), (pts p (.cells #[(.slice ha ((x0.held.filter (fun y => !(y == c.session))).length) hc), (.bool x0.writer), (.slice wa x0.queue.length wc)] 202 (0, 0))), (sl 197 3 wa x0.queue.length wc (x0.queue.flatMap encW)), (all lockE (adel c.name l)), (pts b (.cells #[(.map (some mb)), (.int .u64 (tok : Int))] 195 (0, 0))), (mp encS mb (l.map ptrE)), F]) rfl rfl ?_
            refine oj_nil ?_
            refine xj_then ?_
            refine cj_weak (e' := [(4, (.slice none 0 0)), (3, (.pointer (some ⟨b1, 0, none⟩))), (0, (.pointer (some ⟨b, 0, none⟩)))]) (EnvLe.cons rfl (EnvLe.cons rfl (EnvLe.cons rfl (EnvLe.nil _)))) (fun _ h => h) ?_
            refine cj_seq ?_
            refine cj_sched [(pts b1 (.cells #[(.int .i64 c.kind), (.int .i64 c.session), (.int .i64 c.seq), (.string (ba c.name)), (.int .i64 c.n)] 24 (0, 0)))] [] [(0, true), (2, true), (3, true), (4, true), (1, false), (5, false), (6, false), (7, false), (8, false)] T_mixed (by decide +kernel) rfl ?_
            refine dj_eq (e' := [(4, (.slice none 0 0)), (3, (.pointer (some ⟨b1, 0, none⟩))), (0, (.pointer (some ⟨b, 0, none⟩)))]) (l' := [(sl 3 1 ha ((x0.held.filter (fun y => !(y == c.session))).length) hc ((x0.held.filter (fun y => !(y == c.session))).flatMap ei)), (pts b1 (.cells #[(.int .i64 c.kind), (.int .i64 c.session), (.int .i64 c.seq), (.string (ba c.name)), (.int .i64 c.n)] 24 (0, 0))), (pts p (.cells #[(.slice ha ((x0.held.filter (fun y => !(y == c.session))).length) hc), (.bool x0.writer), (.slice wa x0.queue.length wc)] 202 (0, 0))), (sl 197 3 wa x0.queue.length wc (x0.queue.flatMap encW)), (all lockE (adel c.name l)), (pts b (.cells #[(.map (some mb)), (.int .u64 (tok : Int))] 195 (0, 0))), (mp encS mb (l.map ptrE)), F]) rfl rfl ?_
            refine dj_v (np_then np_body) (ov_loadn (cs := [(.int .i64 c.kind), (.int .i64 c.session), (.int .i64 c.seq), (.string (ba c.name)), (.int .i64 c.n)]) rfl rfl T_a24 (rds_pts (i := 0) rfl rfl)) rfl rfl rfl (sat_sub [1] [0, 2, 3, 4, 5, 6, 7] (by decide +kernel) rfl rfl) ?_
            refine dj_v (np_then np_body) (ov_move rfl rfl) rfl rfl rfl (sat_sub [1] [0, 2, 3, 4, 5, 6, 7] (by decide +kernel) rfl rfl) ?_
            refine dj_v (np_then np_body) (ov_fieldAddr rfl rfl T_f24_3) rfl rfl rfl (sat_sub [1] [0, 2, 3, 4, 5, 6, 7] (by decide +kernel) rfl rfl) ?_
            refine dj_v (np_then np_body) (ov_load1 (v := (.string (ba c.name))) rfl rfl T_o9 (rd_pts (i := 0) rfl rfl)) rfl rfl rfl (sat_sub [1] [0, 2, 3, 4, 5, 6, 7] (by decide +kernel) rfl rfl) ?_
            refine dj_e (oe_call rfl rfl rfl Try.func121 rfl rfl (rest := [(sl 3 1 ha ((x0.held.filter (fun y => !(y == c.session))).length) hc ((x0.held.filter (fun y => !(y == c.session))).flatMap ei)), (pts b1 (.cells #[(.int .i64 c.kind), (.int .i64 c.session), (.int .i64 c.seq), (.string (ba c.name)), (.int .i64 c.n)] 24 (0, 0))), (pts p (.cells #[(.slice ha ((x0.held.filter (fun y => !(y == c.session))).length) hc), (.bool x0.writer), (.slice wa x0.queue.length wc)] 202 (0, 0))), (sl 197 3 wa x0.queue.length wc (x0.queue.flatMap encW)), (all lockE (adel c.name l)), (pts b (.cells #[(.map (some mb)), (.int .u64 (tok : Int))] 195 (0, 0))), (mp encS mb (l.map ptrE)), F]) (lk_one c 0) (js := [0, 1, 2, 3, 4, 5, 6, 7]) ⟨by decide +kernel, rfl, rfl⟩) rfl rfl rfl (.inr (fun q29 => sat_sub [2] [0, 1, 3, 4, 5, 6, 7, 8] (by decide +kernel) rfl rfl)) (fun q29 => ?_)
            refine dj_eq (e' := [(59, (.slice q29.1 ((oneR c 0).length) q29.2)), (62, (.string (ba c.name))), (61, (.pointer (some ⟨b1, 3, none⟩))), (60, (.pointer (some ⟨b, 0, none⟩))), (58, (.agg #[(.int .i64 c.kind), (.int .i64 c.session), (.int .i64 c.seq), (.string (ba c.name)), (.int .i64 c.n)])), (4, (.slice none 0 0)), (3, (.pointer (some ⟨b1, 0, none⟩))), (0, (.pointer (some ⟨b, 0, none⟩)))]) (l' := [(sl 56 5 q29.1 ((oneR c 0).length) q29.2 ((oneR c 0).flatMap encR)), (sl 3 1 ha ((x0.held.filter (fun y => !(y == c.session))).length) hc ((x0.held.filter (fun y => !(y == c.session))).flatMap ei)), (pts b1 (.cells #[(.int .i64 c.kind), (.int .i64 c.session), (.int .i64 c.seq), (.string (ba c.name)), (.int .i64 c.n)] 24 (0, 0))), (pts p (.cells #[(.slice ha ((x0.held.filter (fun y => !(y == c.session))).length) hc), (.bool x0.writer), (.slice wa x0.queue.length wc)] 202 (0, 0))), (sl 197 3 wa x0.queue.length wc (x0.queue.flatMap encW)), (all lockE (adel c.name l)), (pts b (.cells #[(.map (some mb)), (.int .u64 (tok : Int))] 195 (0, 0))), (mp encS mb (l.map ptrE)), F]) rfl rfl ?_
            obtain ⟨qa, qc⟩ := q29
            refine dj_eq (e' := [(59, (.slice qa ((oneR c 0).length) qc)), (62, (.string (ba c.name))), (61, (.pointer (some ⟨b1, 3, none⟩))), (60, (.pointer (some ⟨b, 0, none⟩))), (58, (.agg #[(.int .i64 c.kind), (.int .i64 c.session), (.int .i64 c.seq), (.string (ba c.name)), (.int .i64 c.n)])), (4, (.slice none 0 0)), (3, (.pointer (some ⟨b1, 0, none⟩))), (0, (.pointer (some ⟨b, 0, none⟩)))]) (l' := [(sl 56 5 qa ((oneR c 0).length) qc ((oneR c 0).flatMap encR)), (sl 3 1 ha ((x0.held.filter (fun y => !(y == c.session))).length) hc ((x0.held.filter (fun y => !(y == c.session))).flatMap ei)), (pts b1 (.cells #[(.int .i64 c.kind), (.int .i64 c.session), (.int .i64 c.seq), (.string (ba c.name)), (.int .i64 c.n)] 24 (0, 0))), (pts p (.cells #[(.slice ha ((x0.held.filter (fun y => !(y == c.session))).length) hc), (.bool x0.writer), (.slice wa x0.queue.length wc)] 202 (0, 0))), (sl 197 3 wa x0.queue.length wc (x0.queue.flatMap encW)), (all lockE (adel c.name l)), (pts b (.cells #[(.map (some mb)), (.int .u64 (tok : Int))] 195 (0, 0))), (mp encS mb (l.map ptrE)), F]) rfl rfl ?_
            refine dj_sat (l' := [(LockR (Lk.mk (x0.held.filter (fun y => !(y == c.session))) x0.writer x0.queue) p), (sl 56 5 qa ((oneR c 0).length) qc ((oneR c 0).flatMap encR)), (pts b1 (.cells #[(.int .i64 c.kind), (.int .i64 c.session), (.int .i64 c.seq), (.string (ba c.name)), (.int .i64 c.n)] 24 (0, 0))), (all lockE (adel c.name l)), (pts b (.cells #[(.map (some mb)), (.int .u64 (tok : Int))] 195 (0, 0))), (mp encS mb (l.map ptrE)), F]) (sat_close (r := [(sl 56 5 qa ((oneR c 0).length) qc ((oneR c 0).flatMap encR)), (pts b1 (.cells #[(.int .i64 c.kind), (.int .i64 c.session), (.int .i64 c.seq), (.string (ba c.name)), (.int .i64 c.n)] 24 (0, 0))), (all lockE (adel c.name l)), (pts b (.cells #[(.map (some mb)), (.int .u64 (tok : Int))] 195 (0, 0))), (mp encS mb (l.map ptrE)), F]) ⟨ha, hc, wa, wc⟩ [3, 1, 4, 0, 2, 5, 6, 7, 8] (by decide +kernel) rfl rfl rfl) ?_
            refine dj_e (oe_call rfl rfl rfl Try.func128 rfl rfl (rest := [(sl 56 5 qa ((oneR c 0).length) qc ((oneR c 0).flatMap encR)), (pts b1 (.cells #[(.int .i64 c.kind), (.int .i64 c.session), (.int .i64 c.seq), (.string (ba c.name)), (.int .i64 c.n)] 24 (0, 0))), (all lockE (adel c.name l)), F]) (lk_serve b p mb tok n c.name (l.map ptrE) (Lk.mk (x0.held.filter (fun y => !(y == c.session))) x0.writer x0.queue) hpk (filter_okh hxo) (by omega) ht) (js := [4, 5, 0, 1, 2, 3, 6]) ⟨by decide +kernel, rfl, rfl⟩) rfl rfl rfl (.inr (fun q30 => sat_sub [5] [0, 1, 2, 3, 4, 6, 7] (by decide +kernel) rfl rfl)) (fun q30 => ?_)
            refine dj_eq (e' := [(63, (.slice q30.1 ((serveX tok (Lk.mk (x0.held.filter (fun y => !(y == c.session))) x0.writer x0.queue)).1.length) q30.2)), (59, (.slice qa ((oneR c 0).length) qc)), (62, (.string (ba c.name))), (61, (.pointer (some ⟨b1, 3, none⟩))), (60, (.pointer (some ⟨b, 0, none⟩))), (58, (.agg #[(.int .i64 c.kind), (.int .i64 c.session), (.int .i64 c.seq), (.string (ba c.name)), (.int .i64 c.n)])), (4, (.slice none 0 0)), (3, (.pointer (some ⟨b1, 0, none⟩))), (0, (.pointer (some ⟨b, 0, none⟩)))]) (l' := [(pts b (.cells #[(.map (some mb)), (.int .u64 ((serveX tok (Lk.mk (x0.held.filter (fun y => !(y == c.session))) x0.writer x0.queue)).2.1 : Int))] 195 (0, 0))), (mp encS mb (if (serveX tok (Lk.mk (x0.held.filter (fun y => !(y == c.session))) x0.writer x0.queue)).2.2.held = [] then adel c.name (l.map ptrE) else l.map ptrE)), (sl 56 5 q30.1 ((serveX tok (Lk.mk (x0.held.filter (fun y => !(y == c.session))) x0.writer x0.queue)).1.length) q30.2 (((serveX tok (Lk.mk (x0.held.filter (fun y => !(y == c.session))) x0.writer x0.queue)).1).flatMap encR)), (LockR ((serveX tok (Lk.mk (x0.held.filter (fun y => !(y == c.session))) x0.writer x0.queue)).2.2) p), (sl 56 5 qa ((oneR c 0).length) qc ((oneR c 0).flatMap encR)), (pts b1 (.cells #[(.int .i64 c.kind), (.int .i64 c.session), (.int .i64 c.seq), (.string (ba c.name)), (.int .i64 c.n)] 24 (0, 0))), (all lockE (adel c.name l)), F]) rfl rfl ?_
            obtain ⟨sa, sc⟩ := q30
            refine dj_eq (e' := [(63, (.slice sa ((serveX tok (Lk.mk (x0.held.filter (fun y => !(y == c.session))) x0.writer x0.queue)).1.length) sc)), (59, (.slice qa ((oneR c 0).length) qc)), (62, (.string (ba c.name))), (61, (.pointer (some ⟨b1, 3, none⟩))), (60, (.pointer (some ⟨b, 0, none⟩))), (58, (.agg #[(.int .i64 c.kind), (.int .i64 c.session), (.int .i64 c.seq), (.string (ba c.name)), (.int .i64 c.n)])), (4, (.slice none 0 0)), (3, (.pointer (some ⟨b1, 0, none⟩))), (0, (.pointer (some ⟨b, 0, none⟩)))]) (l' := [(pts b (.cells #[(.map (some mb)), (.int .u64 ((serveX tok (Lk.mk (x0.held.filter (fun y => !(y == c.session))) x0.writer x0.queue)).2.1 : Int))] 195 (0, 0))), (mp encS mb (if (serveX tok (Lk.mk (x0.held.filter (fun y => !(y == c.session))) x0.writer x0.queue)).2.2.held = [] then adel c.name (l.map ptrE) else l.map ptrE)), (sl 56 5 sa ((serveX tok (Lk.mk (x0.held.filter (fun y => !(y == c.session))) x0.writer x0.queue)).1.length) sc (((serveX tok (Lk.mk (x0.held.filter (fun y => !(y == c.session))) x0.writer x0.queue)).1).flatMap encR)), (LockR ((serveX tok (Lk.mk (x0.held.filter (fun y => !(y == c.session))) x0.writer x0.queue)).2.2) p), (sl 56 5 qa ((oneR c 0).length) qc ((oneR c 0).flatMap encR)), (pts b1 (.cells #[(.int .i64 c.kind), (.int .i64 c.session), (.int .i64 c.seq), (.string (ba c.name)), (.int .i64 c.n)] 24 (0, 0))), (all lockE (adel c.name l)), F]) rfl rfl ?_
            refine dj_e (oe_buildSlice (cells := #[(.slice qa ((oneR c 0).length) qc), (.slice sa ((serveX tok (Lk.mk (x0.held.filter (fun y => !(y == c.session))) x0.writer x0.queue)).1.length) sc)]) rfl T_e296 T_z85 rfl rfl rfl rfl) rfl rfl rfl (.inr (fun b31 => sat_sub [6] [0, 1, 2, 3, 4, 5, 7, 8] (by decide +kernel) rfl rfl)) (fun b31 => ?_)
            refine dj_eq (e' := [(64, (.slice (some ⟨b31, 0, none⟩) 2 2)), (63, (.slice sa ((serveX tok (Lk.mk (x0.held.filter (fun y => !(y == c.session))) x0.writer x0.queue)).1.length) sc)), (59, (.slice qa ((oneR c 0).length) qc)), (62, (.string (ba c.name))), (61, (.pointer (some ⟨b1, 3, none⟩))), (60, (.pointer (some ⟨b, 0, none⟩))), (58, (.agg #[(.int .i64 c.kind), (.int .i64 c.session), (.int .i64 c.seq), (.string (ba c.name)), (.int .i64 c.n)])), (4, (.slice none 0 0)), (3, (.pointer (some ⟨b1, 0, none⟩))), (0, (.pointer (some ⟨b, 0, none⟩)))]) (l' := [(pts b31 (.cells #[(.slice qa ((oneR c 0).length) qc), (.slice sa ((serveX tok (Lk.mk (x0.held.filter (fun y => !(y == c.session))) x0.writer x0.queue)).1.length) sc)] 85 (0, 0))), (pts b (.cells #[(.map (some mb)), (.int .u64 ((serveX tok (Lk.mk (x0.held.filter (fun y => !(y == c.session))) x0.writer x0.queue)).2.1 : Int))] 195 (0, 0))), (mp encS mb (if (serveX tok (Lk.mk (x0.held.filter (fun y => !(y == c.session))) x0.writer x0.queue)).2.2.held = [] then adel c.name (l.map ptrE) else l.map ptrE)), (sl 56 5 sa ((serveX tok (Lk.mk (x0.held.filter (fun y => !(y == c.session))) x0.writer x0.queue)).1.length) sc (((serveX tok (Lk.mk (x0.held.filter (fun y => !(y == c.session))) x0.writer x0.queue)).1).flatMap encR)), (LockR ((serveX tok (Lk.mk (x0.held.filter (fun y => !(y == c.session))) x0.writer x0.queue)).2.2) p), (sl 56 5 qa ((oneR c 0).length) qc ((oneR c 0).flatMap encR)), (pts b1 (.cells #[(.int .i64 c.kind), (.int .i64 c.session), (.int .i64 c.seq), (.string (ba c.name)), (.int .i64 c.n)] 24 (0, 0))), (all lockE (adel c.name l)), F]) rfl rfl ?_
            have hsl := serveQ_len x0.queue tok (x0.held.filter (fun y => !(y == c.session))) x0.writer
            refine dj_e (oe_call rfl rfl rfl Try.func127 rfl rfl (rest := [(pts b (.cells #[(.map (some mb)), (.int .u64 ((serveX tok (Lk.mk (x0.held.filter (fun y => !(y == c.session))) x0.writer x0.queue)).2.1 : Int))] 195 (0, 0))), (mp encS mb (if (serveX tok (Lk.mk (x0.held.filter (fun y => !(y == c.session))) x0.writer x0.queue)).2.2.held = [] then adel c.name (l.map ptrE) else l.map ptrE)), (LockR ((serveX tok (Lk.mk (x0.held.filter (fun y => !(y == c.session))) x0.writer x0.queue)).2.2) p), (pts b1 (.cells #[(.int .i64 c.kind), (.int .i64 c.session), (.int .i64 c.seq), (.string (ba c.name)), (.int .i64 c.n)] 24 (0, 0))), (all lockE (adel c.name l)), F]) (lk_join b31 qa sa qc sc (oneR c 0) (serveX tok (Lk.mk (x0.held.filter (fun y => !(y == c.session))) x0.writer x0.queue)).1 (by simp only [oneR, serveX, List.length_singleton]; omega)) (js := [0, 5, 3, 1, 2, 4, 6, 7, 8]) ⟨by decide +kernel, rfl, rfl⟩) rfl rfl rfl (.inr (fun q32 => sat_sub [4] [0, 1, 2, 3, 5, 6] (by decide +kernel) rfl rfl)) (fun q32 => ?_)
            refine dj_eq (e' := [(65, (.slice q32.1 (((oneR c 0) ++ (serveX tok (Lk.mk (x0.held.filter (fun y => !(y == c.session))) x0.writer x0.queue)).1).length) q32.2)), (64, (.slice (some ⟨b31, 0, none⟩) 2 2)), (63, (.slice sa ((serveX tok (Lk.mk (x0.held.filter (fun y => !(y == c.session))) x0.writer x0.queue)).1.length) sc)), (59, (.slice qa ((oneR c 0).length) qc)), (62, (.string (ba c.name))), (61, (.pointer (some ⟨b1, 3, none⟩))), (60, (.pointer (some ⟨b, 0, none⟩))), (58, (.agg #[(.int .i64 c.kind), (.int .i64 c.session), (.int .i64 c.seq), (.string (ba c.name)), (.int .i64 c.n)])), (4, (.slice none 0 0)), (3, (.pointer (some ⟨b1, 0, none⟩))), (0, (.pointer (some ⟨b, 0, none⟩)))]) (l' := [(sl 56 5 q32.1 (((oneR c 0) ++ (serveX tok (Lk.mk (x0.held.filter (fun y => !(y == c.session))) x0.writer x0.queue)).1).length) q32.2 (((oneR c 0) ++ (serveX tok (Lk.mk (x0.held.filter (fun y => !(y == c.session))) x0.writer x0.queue)).1).flatMap encR)), (pts b (.cells #[(.map (some mb)), (.int .u64 ((serveX tok (Lk.mk (x0.held.filter (fun y => !(y == c.session))) x0.writer x0.queue)).2.1 : Int))] 195 (0, 0))), (mp encS mb (if (serveX tok (Lk.mk (x0.held.filter (fun y => !(y == c.session))) x0.writer x0.queue)).2.2.held = [] then adel c.name (l.map ptrE) else l.map ptrE)), (LockR ((serveX tok (Lk.mk (x0.held.filter (fun y => !(y == c.session))) x0.writer x0.queue)).2.2) p), (pts b1 (.cells #[(.int .i64 c.kind), (.int .i64 c.session), (.int .i64 c.seq), (.string (ba c.name)), (.int .i64 c.n)] 24 (0, 0))), (all lockE (adel c.name l)), F]) rfl rfl ?_
            obtain ⟨ja, jc⟩ := q32
            refine dj_eq (e' := [(65, (.slice ja (((oneR c 0) ++ (serveX tok (Lk.mk (x0.held.filter (fun y => !(y == c.session))) x0.writer x0.queue)).1).length) jc)), (64, (.slice (some ⟨b31, 0, none⟩) 2 2)), (63, (.slice sa ((serveX tok (Lk.mk (x0.held.filter (fun y => !(y == c.session))) x0.writer x0.queue)).1.length) sc)), (59, (.slice qa ((oneR c 0).length) qc)), (62, (.string (ba c.name))), (61, (.pointer (some ⟨b1, 3, none⟩))), (60, (.pointer (some ⟨b, 0, none⟩))), (58, (.agg #[(.int .i64 c.kind), (.int .i64 c.session), (.int .i64 c.seq), (.string (ba c.name)), (.int .i64 c.n)])), (4, (.slice none 0 0)), (3, (.pointer (some ⟨b1, 0, none⟩))), (0, (.pointer (some ⟨b, 0, none⟩)))]) (l' := [(sl 56 5 ja (((oneR c 0) ++ (serveX tok (Lk.mk (x0.held.filter (fun y => !(y == c.session))) x0.writer x0.queue)).1).length) jc (((oneR c 0) ++ (serveX tok (Lk.mk (x0.held.filter (fun y => !(y == c.session))) x0.writer x0.queue)).1).flatMap encR)), (pts b (.cells #[(.map (some mb)), (.int .u64 ((serveX tok (Lk.mk (x0.held.filter (fun y => !(y == c.session))) x0.writer x0.queue)).2.1 : Int))] 195 (0, 0))), (mp encS mb (if (serveX tok (Lk.mk (x0.held.filter (fun y => !(y == c.session))) x0.writer x0.queue)).2.2.held = [] then adel c.name (l.map ptrE) else l.map ptrE)), (LockR ((serveX tok (Lk.mk (x0.held.filter (fun y => !(y == c.session))) x0.writer x0.queue)).2.2) p), (pts b1 (.cells #[(.int .i64 c.kind), (.int .i64 c.session), (.int .i64 c.seq), (.string (ba c.name)), (.int .i64 c.n)] 24 (0, 0))), (all lockE (adel c.name l)), F]) rfl rfl ?_
            refine dj_e (oe_of_v (ov_assign rfl rfl)) rfl rfl rfl (.inr (fun _ => sat_sub [4] [0, 1, 2, 3, 5, 6] (by decide +kernel) rfl rfl)) (fun _ => ?_)
            refine dj_nil ?_
            refine xj_then ?_
            refine cj_weak (e' := [(4, (.slice ja (((oneR c 0) ++ (serveX tok (Lk.mk (x0.held.filter (fun y => !(y == c.session))) x0.writer x0.queue)).1).length) jc))]) (EnvLe.cons rfl (EnvLe.nil _)) (fun _ h => h) ?_
            refine cj_ret ?_
            rw [rel_yes (kind_of h5) hget (by intro h9; rcases h9 with h9 | h9 <;> simp [h9] at h20)]
            refine xj_ret (vs := [(.slice ja (((oneR c 0) ++ (serveX tok (Lk.mk (x0.held.filter (fun y => !(y == c.session))) x0.writer x0.queue)).1).length) jc)]) (ja, jc) rfl rfl ?_
            exact fun h hs => (fun h hs => Sat.tail_mono (locks_serve (x := x0) f12 hrl hpl) hs) h (sat_sub (l' := [(sl 56 5 ja (((oneR c 0) ++ (serveX tok (Lk.mk (x0.held.filter (fun y => !(y == c.session))) x0.writer x0.queue)).1).length) jc (((oneR c 0) ++ (serveX tok (Lk.mk (x0.held.filter (fun y => !(y == c.session))) x0.writer x0.queue)).1).flatMap encR)), (pts b (.cells #[(.map (some mb)), (.int .u64 ((serveX tok (Lk.mk (x0.held.filter (fun y => !(y == c.session))) x0.writer x0.queue)).2.1 : Int))] 195 (0, 0))), (mp encS mb (if (serveX tok (Lk.mk (x0.held.filter (fun y => !(y == c.session))) x0.writer x0.queue)).2.2.held = [] then adel c.name (l.map ptrE) else l.map ptrE)), (LockR ((serveX tok (Lk.mk (x0.held.filter (fun y => !(y == c.session))) x0.writer x0.queue)).2.2) p), (all lockE (adel c.name l)), F]) [0, 1, 2, 3, 5, 6] [4] (by decide +kernel) rfl rfl h hs)

set_option maxRecDepth 100000 in
set_option maxHeartbeats 8000000 in
theorem clo_gone1 (b : Nat) (ss : Int) (y : Int) : Spec Try.prog 130 [(.int .i64 y), (.pointer (some ⟨b, 0, none⟩))] [(pts b (.cells #[(.int .i64 ss)] 3 (0, 0)))] (fun x : Unit => .bool (y == ss)) (fun x : Unit => [(pts b (.cells #[(.int .i64 ss)] 3 (0, 0)))]) := by
  refine spec_of (fn := Try.f130) Try.func130 rfl rfl rfl fun F s => ?_
  show CJ _ _ _ _ _ [(0, (.int .i64 y)), (1, (.pointer (some ⟨b, 0, none⟩)))] [(pts b (.cells #[(.int .i64 ss)] 3 (0, 0))), F]
  refine cj_seq ?_
  refine cj_region ?_
  refine oj_v (ov_assign rfl rfl) rfl rfl rfl ?_
  refine oj_nil ?_
  refine xj_then ?_
  refine cj_seq ?_
  refine cj_region ?_
  refine oj_v (ov_move rfl rfl) rfl rfl rfl ?_
  refine oj_v (ov_load1 (v := (.int .i64 ss)) rfl rfl T_o3 (rd_pts (i := 0) rfl rfl)) rfl rfl rfl ?_
  refine oj_v (ov_eql rfl rfl rfl) rfl rfl rfl ?_
  refine oj_v (ov_assign rfl rfl) rfl rfl rfl ?_
  refine oj_nil ?_
  refine xj_then ?_
  refine cj_weak (e' := [(3, (.bool (y == ss)))]) (EnvLe.cons rfl (EnvLe.nil _)) (fun _ h => h) ?_
  refine cj_ret ?_
  refine xj_ret (vs := [(.bool (y == ss))]) () rfl rfl ?_
  exact fun _ h => h

set_option maxRecDepth 100000 in
set_option maxHeartbeats 8000000 in
theorem clo_gone2 (b : Nat) (ss : Int) (y : Wt) : Spec Try.prog 132 [(.agg #[(.int .i64 y.session), (.int .i64 y.seq), (.bool y.reader)]), (.pointer (some ⟨b, 0, none⟩))] [(pts b (.cells #[(.int .i64 ss)] 3 (0, 0)))] (fun x : Unit => .bool (y.session == ss)) (fun x : Unit => [(pts b (.cells #[(.int .i64 ss)] 3 (0, 0)))]) := by
  refine spec_of (fn := Try.f132) Try.func132 rfl rfl rfl fun F s => ?_
  show CJ _ _ _ _ _ [(0, (.agg #[(.int .i64 y.session), (.int .i64 y.seq), (.bool y.reader)])), (1, (.pointer (some ⟨b, 0, none⟩)))] [(pts b (.cells #[(.int .i64 ss)] 3 (0, 0))), F]
  refine cj_seq ?_
  refine cj_region ?_
  refine oj_e (oe_box rfl rfl) rfl rfl rfl (fun b1 => ?_)
  refine oj_eq (e' := [(2, (.pointer (some ⟨b1, 0, none⟩))), (0, (.agg #[(.int .i64 y.session), (.int .i64 y.seq), (.bool y.reader)])), (1, (.pointer (some ⟨b, 0, none⟩)))]) (l' := [(pts b1 (.cells #[(.int .i64 y.session), (.int .i64 y.seq), (.bool y.reader)] 197 (0, 0))), (pts b (.cells #[(.int .i64 ss)] 3 (0, 0))), F]) rfl rfl ?_
  refine oj_v (ov_assign rfl rfl) rfl rfl rfl ?_
  refine oj_nil ?_
  refine xj_then ?_
  refine cj_seq ?_
  refine cj_region ?_
  refine oj_v (ov_fieldAddr rfl rfl T_f197_0) rfl rfl rfl ?_
  refine oj_v (ov_load1 (v := (.int .i64 y.session)) rfl rfl T_o3 (rd_pts (i := 0) rfl rfl)) rfl rfl rfl ?_
  refine oj_v (ov_load1 (v := (.int .i64 ss)) rfl rfl T_o3 (rd_pts (i := 1) rfl rfl)) rfl rfl rfl ?_
  refine oj_v (ov_eql rfl rfl rfl) rfl rfl rfl ?_
  refine oj_v (ov_assign rfl rfl) rfl rfl rfl ?_
  refine oj_nil ?_
  refine xj_then ?_
  refine cj_weak (e' := [(3, (.bool (y.session == ss)))]) (EnvLe.cons rfl (EnvLe.nil _)) (fun _ h => h) ?_
  refine cj_ret ?_
  refine xj_ret (vs := [(.bool (y.session == ss))]) () rfl rfl ?_
  exact sat_sub [1, 2] [0] (by decide +kernel) rfl rfl

set_option maxRecDepth 100000 in
set_option maxHeartbeats 8000000 in
theorem lk_gone (b tok n : Nat) (m : Lks) (ss : Int) (hm : okM n m) (hn : n ≤ 1048576) (ht : tok ≤ topTok) : Spec Try.prog 43 [(.pointer (some ⟨b, 0, none⟩)), (.int .i64 ss)] [(LocksR m tok b)] (fun x : Option Addr × Nat => .slice x.1 (goneM tok m ss).1.length x.2) (fun x : Option Addr × Nat => [sl 56 5 x.1 (goneM tok m ss).1.length x.2 ((goneM tok m ss).1.flatMap encR), LocksR (goneM tok m ss).2.2 (goneM tok m ss).2.1 b]) := by
  refine spec_of (fn := Try.f43) Try.func43 rfl rfl rfl fun F s => ?_
  show CJ _ _ _ _ _ [(0, (.pointer (some ⟨b, 0, none⟩))), (1, (.int .i64 ss))] [(LocksR m tok b), F]
  refine cj_seq ?_
  refine cj_region ?_
  refine oj_e (oe_box rfl rfl) rfl rfl rfl (fun b1 => ?_)
  refine oj_eq (e' := [(3, (.pointer (some ⟨b1, 0, none⟩))), (0, (.pointer (some ⟨b, 0, none⟩))), (1, (.int .i64 ss))]) (l' := [(pts b1 (.cells #[(.int .i64 ss)] 3 (0, 0))), (LocksR m tok b), F]) rfl rfl ?_
  refine oj_v (ov_assign rfl rfl) rfl rfl rfl ?_
  refine oj_nil ?_
  refine xj_then ?_
  refine cj_seq ?_
  refine cj_seq ?_
  refine cj_region ?_
  refine oj_v (ov_move rfl rfl) rfl rfl rfl ?_
  refine oj_v (ov_peql rfl rfl rfl Try.underlying78) rfl rfl rfl ?_
  refine oj_nil ?_
  refine xj_then ?_
  refine cj_false rfl ?_
  refine cj_skip ?_
  refine xj_then ?_
  refine cj_weak (e' := [(4, (.slice none 0 0)), (3, (.pointer (some ⟨b1, 0, none⟩))), (0, (.pointer (some ⟨b, 0, none⟩)))]) (EnvLe.cons rfl (EnvLe.cons rfl (EnvLe.cons rfl (EnvLe.nil _)))) (fun _ h => h) ?_
  refine cj_seq ?_
  refine cj_region ?_
  refine oj_v (ov_assign rfl rfl) rfl rfl rfl ?_
  refine oj_nil ?_
  refine xj_then ?_
  refine cj_seq ?_
  refine cj_seq ?_
  refine cj_region ?_
  refine oj_v (ov_move rfl rfl) rfl rfl rfl ?_
  refine oj_e (oe_call rfl rfl rfl Try.func129 rfl rfl (rest := [(pts b1 (.cells #[(.int .i64 ss)] 3 (0, 0))), F]) (lk_names b tok m hm.1 (by have := hm.2.1; omega)) (js := [1, 0, 2]) ⟨by decide +kernel, rfl, rfl⟩) rfl rfl rfl (fun q2 => ?_)
  refine oj_eq (e' := [(12, (.slice q2.1 ((m.map (·.1)).length) q2.2)), (11, (.pointer (some ⟨b, 0, none⟩))), (5, (.slice none 0 0)), (4, (.slice none 0 0)), (3, (.pointer (some ⟨b1, 0, none⟩))), (0, (.pointer (some ⟨b, 0, none⟩)))]) (l' := [(sl 9 1 q2.1 ((m.map (·.1)).length) q2.2 ((m.map (·.1)).flatMap es)), (LocksR m tok b), (pts b1 (.cells #[(.int .i64 ss)] 3 (0, 0))), F]) rfl rfl ?_
  obtain ⟨na, nc⟩ := q2
  refine oj_eq (e' := [(12, (.slice na ((m.map (·.1)).length) nc)), (11, (.pointer (some ⟨b, 0, none⟩))), (5, (.slice none 0 0)), (4, (.slice none 0 0)), (3, (.pointer (some ⟨b1, 0, none⟩))), (0, (.pointer (some ⟨b, 0, none⟩)))]) (l' := [(sl 9 1 na ((m.map (·.1)).length) nc ((m.map (·.1)).flatMap es)), (LocksR m tok b), (pts b1 (.cells #[(.int .i64 ss)] 3 (0, 0))), F]) rfl rfl ?_
  refine oj_v (ov_lenL rfl rfl rfl Try.underlying156) rfl rfl rfl ?_
  refine oj_v (ov_move rfl rfl) rfl rfl rfl ?_
  refine oj_nil ?_
  refine xj_then ?_
  refine cj_block ?_
  refine cj_sat (l' := [(sl 56 5 none 0 0 []), (sl 9 1 na ((m.map (·.1)).length) nc ((m.map (·.1)).flatMap es)), (LocksR m tok b), (pts b1 (.cells #[(.int .i64 ss)] 3 (0, 0))), F]) (fun _ h => Sat.sl_new h) ?_
  refine cj_eq (l' := [(sl 56 5 none (([] : List Rp).length) 0 (([] : List Rp).flatMap encR)), (sl 9 1 na ((m.map (·.1)).length) nc ((m.map (·.1)).flatMap es)), (LocksR m tok b), (pts b1 (.cells #[(.int .i64 ss)] 3 (0, 0))), F]) rfl (rfl) ?_
  refine cj_loop (fun x : Nat × (List Rp) × Nat × Lks × (Option Addr) × Nat => [(0, (.pointer (some ⟨b, 0, none⟩))), (3, (.pointer (some ⟨b1, 0, none⟩))), (5, (.slice x.2.2.2.2.1 x.2.1.length x.2.2.2.2.2)), (12, (.slice na ((m.map (·.1)).length) nc)), (13, (.int .i64 ((m.map (·.1)).length : Int))), (14, (.int .i64 (x.1 : Int)))]) (fun x : Nat × (List Rp) × Nat × Lks × (Option Addr) × Nat => [(fact (GoneInv n ss tok m x.1 x.2.1 x.2.2.1 x.2.2.2.1)), (sl 9 1 na ((m.map (·.1)).length) nc ((m.map (·.1)).flatMap es)), (LocksR x.2.2.2.1 x.2.2.1 b), (pts b1 (.cells #[(.int .i64 ss)] 3 (0, 0))), (sl 56 5 x.2.2.2.2.1 x.2.1.length x.2.2.2.2.2 (x.2.1.flatMap encR)), F]) (fun x : Nat × (List Rp) × Nat × Lks × (Option Addr) × Nat => (m.map (·.1)).length - x.1) ⟨0, ([] : List Rp), tok, m, none, 0⟩ (EnvLe.cons rfl (EnvLe.cons rfl (EnvLe.cons rfl (EnvLe.cons rfl (EnvLe.cons rfl (EnvLe.cons rfl (EnvLe.nil _))))))) (fun h hs => Sat.fact_in (gone_start hm ht) (sat_sub [1, 2, 3, 0, 4] [] (by decide +kernel) rfl rfl h hs)) ?_
  rintro ⟨i, outx, tk, mm, oa, oc⟩
  refine cj_eq (e' := [(0, (.pointer (some ⟨b, 0, none⟩))), (3, (.pointer (some ⟨b1, 0, none⟩))), (5, (.slice oa outx.length oc)), (12, (.slice na ((m.map (·.1)).length) nc)), (13, (.int .i64 ((m.map (·.1)).length : Int))), (14, (.int .i64 (i : Int)))]) (l' := [(fact (GoneInv n ss tok m i outx tk mm)), (sl 9 1 na ((m.map (·.1)).length) nc ((m.map (·.1)).flatMap es)), (LocksR mm tk b), (pts b1 (.cells #[(.int .i64 ss)] 3 (0, 0))), (sl 56 5 oa outx.length oc (outx.flatMap encR)), F]) rfl rfl ?_
  refine cj_fact (sat_fact 0 rfl) (fun hinv => ?_)
  refine cj_sat (l' := [(sl 9 1 na ((m.map (·.1)).length) nc ((m.map (·.1)).flatMap es)), (LocksR mm tk b), (pts b1 (.cells #[(.int .i64 ss)] 3 (0, 0))), (sl 56 5 oa outx.length oc (outx.flatMap encR)), F]) (sat_sub [1, 2, 3, 4, 5] [0] (by decide +kernel) rfl rfl) ?_
  have hi2 := hinv.2.1
  have hi5 := hinv.2.2.2.2.1
  have hml : (m.map (·.1)).length ≤ 256 := by rw [List.length_map]; exact hm.2.1
  refine cj_seq ?_
  refine cj_region ?_
  refine oj_v (ov_lss rfl rfl rfl) rfl rfl rfl ?_
  refine oj_nil ?_
  refine xj_then ?_
  refine cj_seq ?_
  refine cj_cond (b := decide ((i : Int) < ((m.map (·.1)).length : Int))) rfl (fun h3 => ?_) (fun h3 => ?_)
  · have c4 : (i : Int) < ((m.map (·.1)).length : Int) := of_decide_eq_true h3
    refine cj_skip ?_
    refine xj_then ?_
    refine cj_seq ?_
    refine cj_block ?_
    refine cj_seq ?_
    obtain ⟨kn, hkn⟩ := at_lt (qs := m.map (·.1)) (i := i) (by omega)
    refine cj_fact (sat_know 0 rfl (fun h hs => sl_some hs (by omega))) (fun ⟨g5, hg5⟩ => ?_)
    subst hg5
    refine cj_region ?_
    refine oj_v (ov_indexAddr0 (j := i) rfl rfl rfl Try.underlying156 T_s9 (by omega) (by omega)) rfl rfl rfl ?_
    refine oj_v (ov_load1 (v := (.string (ba kn))) rfl rfl T_o9 (rd_el (i := 0) (j := i) 0 es_len rfl hkn rfl)) rfl rfl rfl ?_
    refine oj_v (ov_assign rfl rfl) rfl rfl rfl ?_
    refine oj_nil ?_
    refine xj_then ?_
    refine cj_weak (e' := [(7, (.string (ba kn))), (0, (.pointer (some ⟨b, 0, none⟩))), (3, (.pointer (some ⟨b1, 0, none⟩))), (5, (.slice oa outx.length oc)), (12, (.slice (some ⟨g5, 0, none⟩) ((m.map (·.1)).length) nc)), (13, (.int .i64 ((m.map (·.1)).length : Int))), (14, (.int .i64 (i : Int)))]) (EnvLe.cons rfl (EnvLe.cons rfl (EnvLe.cons rfl (EnvLe.cons rfl (EnvLe.cons rfl (EnvLe.cons rfl (EnvLe.cons rfl (EnvLe.nil _)))))))) (fun _ h => h) ?_
    refine cj_seq ?_
    refine cj_out (sat_open 1 rfl) (fun x6 => ?_)
    obtain ⟨mb, l⟩ := x6
    refine cj_eq (e' := [(7, (.string (ba kn))), (0, (.pointer (some ⟨b, 0, none⟩))), (3, (.pointer (some ⟨b1, 0, none⟩))), (5, (.slice oa outx.length oc)), (12, (.slice (some ⟨g5, 0, none⟩) ((m.map (·.1)).length) nc)), (13, (.int .i64 ((m.map (·.1)).length : Int))), (14, (.int .i64 (i : Int)))]) (l' := [(fact (l.map (fun e => (e.1, e.2.2)) = mm)), (pts b (.cells #[(.map (some mb)), (.int .u64 (tk : Int))] 195 (0, 0))), (mp encS mb (l.map ptrE)), (all lockE l), (sl 9 1 (some ⟨g5, 0, none⟩) ((m.map (·.1)).length) nc ((m.map (·.1)).flatMap es)), (pts b1 (.cells #[(.int .i64 ss)] 3 (0, 0))), (sl 56 5 oa outx.length oc (outx.flatMap encR)), F]) rfl rfl ?_
    refine cj_fact (sat_fact 0 rfl) (fun f7 => ?_)
    refine cj_sat (l' := [(pts b (.cells #[(.map (some mb)), (.int .u64 (tk : Int))] 195 (0, 0))), (mp encS mb (l.map ptrE)), (all lockE l), (sl 9 1 (some ⟨g5, 0, none⟩) ((m.map (·.1)).length) nc ((m.map (·.1)).flatMap es)), (pts b1 (.cells #[(.int .i64 ss)] 3 (0, 0))), (sl 56 5 oa outx.length oc (outx.flatMap encR)), F]) (sat_sub [1, 2, 3, 4, 5, 6, 7] [0] (by decide +kernel) rfl rfl) ?_
    have hrl := rising_l f7 hi2.1
    obtain ⟨x0, hget⟩ := gone_at hinv hkn
    obtain ⟨p, hpl, hpk⟩ := find_yes f7 hget
    have hxo : okX n x0 := hi2.get hget
    have hxl := hxo.2
    refine cj_sat (l' := [(LockR x0 p), (all lockE (adel kn l)), (pts b (.cells #[(.map (some mb)), (.int .u64 (tk : Int))] 195 (0, 0))), (mp encS mb (l.map ptrE)), (sl 9 1 (some ⟨g5, 0, none⟩) ((m.map (·.1)).length) nc ((m.map (·.1)).flatMap es)), (pts b1 (.cells #[(.int .i64 ss)] 3 (0, 0))), (sl 56 5 oa outx.length oc (outx.flatMap encR)), F]) (fun h hs => (locks_take hrl hpl) h (sat_js (l' := [(all lockE l), (pts b (.cells #[(.map (some mb)), (.int .u64 (tk : Int))] 195 (0, 0))), (mp encS mb (l.map ptrE)), (sl 9 1 (some ⟨g5, 0, none⟩) ((m.map (·.1)).length) nc ((m.map (·.1)).flatMap es)), (pts b1 (.cells #[(.int .i64 ss)] 3 (0, 0))), (sl 56 5 oa outx.length oc (outx.flatMap encR)), F]) [2, 0, 1, 3, 4, 5, 6] (by decide +kernel) rfl rfl h hs)) ?_
    refine cj_region ?_
    refine oj_v (ov_move rfl rfl) rfl rfl rfl ?_
    refine oj_v (ov_nilCheck rfl rfl) rfl rfl rfl ?_
    refine oj_v (ov_fieldAddr rfl rfl T_f195_0) rfl rfl rfl ?_
    refine oj_v (ov_load1 (v := (.map (some mb))) rfl rfl T_o193 (rd_pts (i := 2) rfl rfl)) rfl rfl rfl ?_
    refine oj_v (ov_move rfl rfl) rfl rfl rfl ?_
    refine oj_v (ov_lookup (i := 3) (k := kn) (κ := encS) rfl rfl rfl Try.underlying193 Try.underlying9 T_z198 rfl) rfl rfl rfl ?_
    refine oj_head (v' := (.pointer (some ⟨p, 0, none⟩))) (by rw [hpk]; rfl) ?_
    refine oj_v (ov_assign rfl rfl) rfl rfl rfl ?_
    refine oj_nil ?_
    refine xj_then ?_
    refine cj_weak (e' := [(8, (.pointer (some ⟨p, 0, none⟩))), (7, (.string (ba kn))), (0, (.pointer (some ⟨b, 0, none⟩))), (3, (.pointer (some ⟨b1, 0, none⟩))), (5, (.slice oa outx.length oc)), (12, (.slice (some ⟨g5, 0, none⟩) ((m.map (·.1)).length) nc)), (13, (.int .i64 ((m.map (·.1)).length : Int))), (14, (.int .i64 (i : Int)))]) (EnvLe.cons rfl (EnvLe.cons rfl (EnvLe.cons rfl (EnvLe.cons rfl (EnvLe.cons rfl (EnvLe.cons rfl (EnvLe.cons rfl (EnvLe.cons rfl (EnvLe.nil _))))))))) (fun _ h => h) ?_
    refine cj_seq ?_
    refine cj_seq ?_
    refine cj_region ?_
    refine oj_v (ov_move rfl rfl) rfl rfl rfl ?_
    refine oj_v (ov_load1 (v := (.int .i64 ss)) rfl rfl T_o3 (rd_pts (i := 5) rfl rfl)) rfl rfl rfl ?_
    refine oj_e (oe_call rfl rfl rfl Try.func123 rfl rfl (rest := [(all lockE (adel kn l)), (pts b (.cells #[(.map (some mb)), (.int .u64 (tk : Int))] 195 (0, 0))), (mp encS mb (l.map ptrE)), (sl 9 1 (some ⟨g5, 0, none⟩) ((m.map (·.1)).length) nc ((m.map (·.1)).flatMap es)), (pts b1 (.cells #[(.int .i64 ss)] 3 (0, 0))), (sl 56 5 oa outx.length oc (outx.flatMap encR)), F]) (lk_asks p ss x0 (by omega)) (js := [0, 1, 2, 3, 4, 5, 6, 7]) ⟨by decide +kernel, rfl, rfl⟩) rfl rfl rfl (fun _ => ?_)
    refine oj_eq (e' := [(26, (.bool (asksX x0 ss))), (25, (.int .i64 ss)), (24, (.pointer (some ⟨p, 0, none⟩))), (8, (.pointer (some ⟨p, 0, none⟩))), (7, (.string (ba kn))), (0, (.pointer (some ⟨b, 0, none⟩))), (3, (.pointer (some ⟨b1, 0, none⟩))), (5, (.slice oa outx.length oc)), (12, (.slice (some ⟨g5, 0, none⟩) ((m.map (·.1)).length) nc)), (13, (.int .i64 ((m.map (·.1)).length : Int))), (14, (.int .i64 (i : Int)))]) (l' := [(LockR x0 p), (all lockE (adel kn l)), (pts b (.cells #[(.map (some mb)), (.int .u64 (tk : Int))] 195 (0, 0))), (mp encS mb (l.map ptrE)), (sl 9 1 (some ⟨g5, 0, none⟩) ((m.map (·.1)).length) nc ((m.map (·.1)).flatMap es)), (pts b1 (.cells #[(.int .i64 ss)] 3 (0, 0))), (sl 56 5 oa outx.length oc (outx.flatMap encR)), F]) rfl rfl ?_
    refine oj_v (ov_not rfl rfl) rfl rfl rfl ?_
    refine oj_nil ?_
    refine xj_then ?_
    refine cj_weak (e' := [(27, (.bool (!(asksX x0 ss)))), (8, (.pointer (some ⟨p, 0, none⟩))), (7, (.string (ba kn))), (0, (.pointer (some ⟨b, 0, none⟩))), (3, (.pointer (some ⟨b1, 0, none⟩))), (5, (.slice oa outx.length oc)), (12, (.slice (some ⟨g5, 0, none⟩) ((m.map (·.1)).length) nc)), (13, (.int .i64 ((m.map (·.1)).length : Int))), (14, (.int .i64 (i : Int)))]) (EnvLe.cons rfl (EnvLe.cons rfl (EnvLe.cons rfl (EnvLe.cons rfl (EnvLe.cons rfl (EnvLe.cons rfl (EnvLe.cons rfl (EnvLe.cons rfl (EnvLe.cons rfl (EnvLe.nil _)))))))))) (fun _ h => h) ?_
    refine cj_cond (b := !(asksX x0 ss)) rfl (fun h8 => ?_) (fun h8 => ?_)
    · have h9 : (asksX x0 ss) = false := by simpa using h8
      have c10 := h9
      refine cj_exit ?_
      refine xj_then_other (by simp) ?_
      refine xj_block_exit ?_
      refine xj_then ?_
      refine cj_weak (e' := [(0, (.pointer (some ⟨b, 0, none⟩))), (3, (.pointer (some ⟨b1, 0, none⟩))), (5, (.slice oa outx.length oc)), (12, (.slice (some ⟨g5, 0, none⟩) ((m.map (·.1)).length) nc)), (13, (.int .i64 ((m.map (·.1)).length : Int))), (14, (.int .i64 (i : Int)))]) (EnvLe.cons rfl (EnvLe.cons rfl (EnvLe.cons rfl (EnvLe.cons rfl (EnvLe.cons rfl (EnvLe.cons rfl (EnvLe.nil _))))))) (fun _ h => h) ?_
      refine cj_region ?_
      refine oj_v (ov_add rfl rfl rfl (by omega)) rfl rfl rfl ?_
      refine oj_v (ov_move rfl rfl) rfl rfl rfl ?_
      refine oj_nil ?_
      refine xj_sat (l' := [(LocksR mm tk b), (sl 9 1 (some ⟨g5, 0, none⟩) ((m.map (·.1)).length) nc ((m.map (·.1)).flatMap es)), (pts b1 (.cells #[(.int .i64 ss)] 3 (0, 0))), (sl 56 5 oa outx.length oc (outx.flatMap encR)), F]) (fun h hs => (locks_back f7 hrl hpl) h (sat_js (l' := [(pts b (.cells #[(.map (some mb)), (.int .u64 (tk : Int))] 195 (0, 0))), (mp encS mb (l.map ptrE)), (LockR x0 p), (all lockE (adel kn l)), (sl 9 1 (some ⟨g5, 0, none⟩) ((m.map (·.1)).length) nc ((m.map (·.1)).flatMap es)), (pts b1 (.cells #[(.int .i64 ss)] 3 (0, 0))), (sl 56 5 oa outx.length oc (outx.flatMap encR)), F]) [2, 3, 0, 1, 4, 5, 6, 7] (by decide +kernel) rfl rfl h hs)) ?_
      exact xj_round ⟨(i + 1), outx, tk, mm, oa, oc⟩ (by dsimp only; omega) (EnvLe.cons rfl (EnvLe.cons rfl (EnvLe.cons rfl (EnvLe.cons rfl (EnvLe.cons rfl (EnvLe.cons rfl (EnvLe.nil _))))))) (fun h hs => Sat.fact_in (gone_skip hinv hkn hget (by simpa using h8)) (sat_sub [1, 0, 2, 3, 4] [] (by decide +kernel) rfl rfl h hs))
    · have h11 : (asksX x0 ss) = true := by simpa using h8
      have c12 := h11
      refine cj_skip ?_
      refine xj_then ?_
      refine cj_seq ?_
      refine cj_out (sat_open 0 rfl) (fun x13 => ?_)
      obtain ⟨ha, hc, wa, wc⟩ := x13
      refine cj_eq (e' := [(27, (.bool (!(asksX x0 ss)))), (8, (.pointer (some ⟨p, 0, none⟩))), (7, (.string (ba kn))), (0, (.pointer (some ⟨b, 0, none⟩))), (3, (.pointer (some ⟨b1, 0, none⟩))), (5, (.slice oa outx.length oc)), (12, (.slice (some ⟨g5, 0, none⟩) ((m.map (·.1)).length) nc)), (13, (.int .i64 ((m.map (·.1)).length : Int))), (14, (.int .i64 (i : Int)))]) (l' := [(pts p (.cells #[(.slice ha x0.held.length hc), (.bool x0.writer), (.slice wa x0.queue.length wc)] 202 (0, 0))), (sl 3 1 ha x0.held.length hc (x0.held.flatMap ei)), (sl 197 3 wa x0.queue.length wc (x0.queue.flatMap encW)), (all lockE (adel kn l)), (pts b (.cells #[(.map (some mb)), (.int .u64 (tk : Int))] 195 (0, 0))), (mp encS mb (l.map ptrE)), (sl 9 1 (some ⟨g5, 0, none⟩) ((m.map (·.1)).length) nc ((m.map (·.1)).flatMap es)), (pts b1 (.cells #[(.int .i64 ss)] 3 (0, 0))), (sl 56 5 oa outx.length oc (outx.flatMap encR)), F]) rfl rfl ?_
      refine cj_region ?_
      refine oj_v (ov_move rfl rfl) rfl rfl rfl ?_
      refine oj_v (ov_move rfl rfl) rfl rfl rfl ?_
      refine oj_v (ov_nilCheck rfl rfl) rfl rfl rfl ?_
      refine oj_v (ov_fieldAddr rfl rfl T_f202_0) rfl rfl rfl ?_
      refine oj_v (ov_load1 (v := (.slice ha x0.held.length hc)) rfl rfl T_o72 (rd_pts (i := 0) rfl rfl)) rfl rfl rfl ?_
      refine oj_v (ov_makeFunc rfl rfl rfl) rfl rfl rfl ?_
      refine oj_e (oe_call rfl rfl rfl Try.func125 rfl rfl (rest := [(pts p (.cells #[(.slice ha x0.held.length hc), (.bool x0.writer), (.slice wa x0.queue.length wc)] 202 (0, 0))), (sl 197 3 wa x0.queue.length wc (x0.queue.flatMap encW)), (all lockE (adel kn l)), (pts b (.cells #[(.map (some mb)), (.int .u64 (tk : Int))] 195 (0, 0))), (mp encS mb (l.map ptrE)), (sl 9 1 (some ⟨g5, 0, none⟩) ((m.map (·.1)).length) nc ((m.map (·.1)).flatMap es)), (sl 56 5 oa outx.length oc (outx.flatMap encR)), F]) (lib_deleteFunc_int 130 Try.f130 (.pointer (some ⟨b1, 0, none⟩)) (pts b1 (.cells #[(.int .i64 ss)] 3 (0, 0))) (fun y => y == ss) Try.func130 rfl rfl (fun x => clo_gone1 b1 ss x) ha hc x0.held (by omega)) (js := [1, 7, 0, 2, 3, 4, 5, 6, 8, 9]) ⟨by decide +kernel, rfl, rfl⟩) rfl rfl rfl (fun _ => ?_)
      refine oj_eq (e' := [(34, (.slice ha ((x0.held.filter (fun y => !(y == ss))).length) hc)), (33, (.func (.func 130) #[] #[(.pointer (some ⟨b1, 0, none⟩))])), (32, (.slice ha x0.held.length hc)), (31, (.pointer (some ⟨p, 0, none⟩))), (30, (.pointer (some ⟨p, 0, none⟩))), (29, (.pointer (some ⟨p, 0, none⟩))), (28, (.pointer (some ⟨p, 0, none⟩))), (27, (.bool (!(asksX x0 ss)))), (8, (.pointer (some ⟨p, 0, none⟩))), (7, (.string (ba kn))), (0, (.pointer (some ⟨b, 0, none⟩))), (3, (.pointer (some ⟨b1, 0, none⟩))), (5, (.slice oa outx.length oc)), (12, (.slice (some ⟨g5, 0, none⟩) ((m.map (·.1)).length) nc)), (13, (.int .i64 ((m.map (·.1)).length : Int))), (14, (.int .i64 (i : Int)))]) (l' := [(sl 3 1 ha ((x0.held.filter (fun y => !(y == ss))).length) hc ((x0.held.filter (fun y => !(y == ss))).flatMap ei)), (pts b1 (.cells #[(.int .i64 ss)] 3 (0, 0))), (pts p (.cells #[(.slice ha x0.held.length hc), (.bool x0.writer), (.slice wa x0.queue.length wc)] 202 (0, 0))), (sl 197 3 wa x0.queue.length wc (x0.queue.flatMap encW)), (all lockE (adel kn l)), (pts b (.cells #[(.map (some mb)), (.int .u64 (tk : Int))] 195 (0, 0))), (mp encS mb (l.map ptrE)), (sl 9 1 (some ⟨g5, 0, none⟩) ((m.map (·.1)).length) nc ((m.map (·.1)).flatMap es)), (sl 56 5 oa outx.length oc (outx.flatMap encR)), F]) rfl rfl ?_
      refine oj_v (ov_nilCheck rfl rfl) rfl rfl rfl ?_
      refine oj_v (ov_fieldAddr rfl rfl T_f202_0) rfl rfl rfl ?_
      refine oj_e0 (oe_store1 (i := 2) rfl rfl rfl T_o72 rfl rfl rfl) rfl rfl (fun _ => ?_)
      refine oj_eq (e' := [(36, (.pointer (some ⟨p, 0, none⟩))), (35, (.pointer (some ⟨p, 0, none⟩))), (34, (.slice ha ((x0.held.filter (fun y => !(y == ss))).length) hc)), (33, (.func (.func 130) #[] #[(.pointer (some ⟨b1, 0, none⟩))])), (32, (.slice ha x0.held.length hc)), (31, (.pointer (some ⟨p, 0, none⟩))), (30, (.pointer (some ⟨p, 0, none⟩))), (29, (.pointer (some ⟨p, 0, none⟩))), (28, (.pointer (some ⟨p, 0, none⟩))), (27, (.bool (!(asksX x0 ss)))), (8, (.pointer (some ⟨p, 0, none⟩))), (7, (.string (ba kn))), (0, (.pointer (some ⟨b, 0, none⟩))), (3, (.pointer (some ⟨b1, 0, none⟩))), (5, (.slice oa outx.length oc)), (12, (.slice (some ⟨g5, 0, none⟩) ((m.map (·.1)).length) nc)), (13, (.int .i64 ((m.map (·.1)).length : Int))), (14, (.int .i64 (i : Int)))]) (l' := [(sl 3 1 ha ((x0.held.filter (fun y => !(y == ss))).length) hc ((x0.held.filter (fun y => !(y == ss))).flatMap ei)), (pts b1 (.cells #[(.int .i64 ss)] 3 (0, 0))), (pts p (.cells #[(.slice ha ((x0.held.filter (fun y => !(y == ss))).length) hc), (.bool x0.writer), (.slice wa x0.queue.length wc)] 202 (0, 0))), (sl 197 3 wa x0.queue.length wc (x0.queue.flatMap encW)), (all lockE (adel kn l)), (pts b (.cells #[(.map (some mb)), (.int .u64 (tk : Int))] 195 (0, 0))), (mp encS mb (l.map ptrE)), (sl 9 1 (some ⟨g5, 0, none⟩) ((m.map (·.1)).length) nc ((m.map (·.1)).flatMap es)), (sl 56 5 oa outx.length oc (outx.flatMap encR)), F]) rfl rfl ?_
      refine oj_nil ?_
      refine xj_then ?_
      refine cj_weak (e' := [(8, (.pointer (some ⟨p, 0, none⟩))), (7, (.string (ba kn))), (0, (.pointer (some ⟨b, 0, none⟩))), (3, (.pointer (some ⟨b1, 0, none⟩))), (5, (.slice oa outx.length oc)), (12, (.slice (some ⟨g5, 0, none⟩) ((m.map (·.1)).length) nc)), (13, (.int .i64 ((m.map (·.1)).length : Int))), (14, (.int .i64 (i : Int)))]) (EnvLe.cons rfl (EnvLe.cons rfl (EnvLe.cons rfl (EnvLe.cons rfl (EnvLe.cons rfl (EnvLe.cons rfl (EnvLe.cons rfl (EnvLe.cons rfl (EnvLe.nil _))))))))) (fun _ h => h) ?_
      refine cj_seq ?_
      refine cj_region ?_
      refine oj_v (ov_move rfl rfl) rfl rfl rfl ?_
      refine oj_v (ov_move rfl rfl) rfl rfl rfl ?_
      refine oj_v (ov_nilCheck rfl rfl) rfl rfl rfl ?_
      refine oj_v (ov_fieldAddr rfl rfl T_f202_2) rfl rfl rfl ?_
      refine oj_v (ov_load1 (v := (.slice wa x0.queue.length wc)) rfl rfl T_o200 (rd_pts (i := 2) rfl rfl)) rfl rfl rfl ?_
      refine oj_v (ov_makeFunc rfl rfl rfl) rfl rfl rfl ?_
      refine oj_e (oe_call rfl rfl rfl Try.func131 rfl rfl (rest := [(sl 3 1 ha ((x0.held.filter (fun y => !(y == ss))).length) hc ((x0.held.filter (fun y => !(y == ss))).flatMap ei)), (pts p (.cells #[(.slice ha ((x0.held.filter (fun y => !(y == ss))).length) hc), (.bool x0.writer), (.slice wa x0.queue.length wc)] 202 (0, 0))), (all lockE (adel kn l)), (pts b (.cells #[(.map (some mb)), (.int .u64 (tk : Int))] 195 (0, 0))), (mp encS mb (l.map ptrE)), (sl 9 1 (some ⟨g5, 0, none⟩) ((m.map (·.1)).length) nc ((m.map (·.1)).flatMap es)), (sl 56 5 oa outx.length oc (outx.flatMap encR)), F]) (lib_deleteFunc_wt 132 Try.f132 (.pointer (some ⟨b1, 0, none⟩)) (pts b1 (.cells #[(.int .i64 ss)] 3 (0, 0))) (fun w => w.session == ss) Try.func132 rfl rfl (fun x => clo_gone2 b1 ss x) wa wc x0.queue (by omega)) (js := [3, 1, 0, 2, 4, 5, 6, 7, 8, 9]) ⟨by decide +kernel, rfl, rfl⟩) rfl rfl rfl (fun _ => ?_)
      refine oj_eq (e' := [(43, (.slice wa ((x0.queue.filter (fun w => !(w.session == ss))).length) wc)), (42, (.func (.func 132) #[] #[(.pointer (some ⟨b1, 0, none⟩))])), (41, (.slice wa x0.queue.length wc)), (40, (.pointer (some ⟨p, 2, none⟩))), (39, (.pointer (some ⟨p, 0, none⟩))), (38, (.pointer (some ⟨p, 0, none⟩))), (37, (.pointer (some ⟨p, 0, none⟩))), (8, (.pointer (some ⟨p, 0, none⟩))), (7, (.string (ba kn))), (0, (.pointer (some ⟨b, 0, none⟩))), (3, (.pointer (some ⟨b1, 0, none⟩))), (5, (.slice oa outx.length oc)), (12, (.slice (some ⟨g5, 0, none⟩) ((m.map (·.1)).length) nc)), (13, (.int .i64 ((m.map (·.1)).length : Int))), (14, (.int .i64 (i : Int)))]) (l' := [(sl 197 3 wa ((x0.queue.filter (fun w => !(w.session == ss))).length) wc ((x0.queue.filter (fun w => !(w.session == ss))).flatMap encW)), (pts b1 (.cells #[(.int .i64 ss)] 3 (0, 0))), (sl 3 1 ha ((x0.held.filter (fun y => !(y == ss))).length) hc ((x0.held.filter (fun y => !(y == ss))).flatMap ei)), (pts p (.cells #[(.slice ha ((x0.held.filter (fun y => !(y == ss))).length) hc), (.bool x0.writer), (.slice wa x0.queue.length wc)] 202 (0, 0))), (all lockE (adel kn l)), (pts b (.cells #[(.map (some mb)), (.int .u64 (tk : Int))] 195 (0, 0))), (mp encS mb (l.map ptrE)), (sl 9 1 (some ⟨g5, 0, none⟩) ((m.map (·.1)).length) nc ((m.map (·.1)).flatMap es)), (sl 56 5 oa outx.length oc (outx.flatMap encR)), F]) rfl rfl ?_
      refine oj_v (ov_nilCheck rfl rfl) rfl rfl rfl ?_
      refine oj_v (ov_fieldAddr rfl rfl T_f202_2) rfl rfl rfl ?_
      refine oj_e0 (oe_store1 (i := 3) rfl rfl rfl T_o200 rfl rfl rfl) rfl rfl (fun _ => ?_)
      refine oj_eq (e' := [(45, (.pointer (some ⟨p, 2, none⟩))), (44, (.pointer (some ⟨p, 0, none⟩))), (43, (.slice wa ((x0.queue.filter (fun w => !(w.session == ss))).length) wc)), (42, (.func (.func 132) #[] #[(.pointer (some ⟨b1, 0, none⟩))])), (41, (.slice wa x0.queue.length wc)), (40, (.pointer (some ⟨p, 2, none⟩))), (39, (.pointer (some ⟨p, 0, none⟩))), (38, (.pointer (some ⟨p, 0, none⟩))), (37, (.pointer (some ⟨p, 0, none⟩))), (8, (.pointer (some ⟨p, 0, none⟩))), (7, (.string (ba kn))), (0, (.pointer (some ⟨b, 0, none⟩))), (3, (.pointer (some ⟨b1, 0, none⟩))), (5, (.slice oa outx.length oc)), (12, (.slice (some ⟨g5, 0, none⟩) ((m.map (·.1)).length) nc)), (13, (.int .i64 ((m.map (·.1)).length : Int))), (14, (.int .i64 (i : Int)))]) (l' := [(sl 197 3 wa ((x0.queue.filter (fun w => !(w.session == ss))).length) wc ((x0.queue.filter (fun w => !(w.session == ss))).flatMap encW)), (pts b1 (.cells #[(.int .i64 ss)] 3 (0, 0))), (sl 3 1 ha ((x0.held.filter (fun y => !(y == ss))).length) hc ((x0.held.filter (fun y => !(y == ss))).flatMap ei)), (pts p (.cells #[(.slice ha ((x0.held.filter (fun y => !(y == ss))).length) hc), (.bool x0.writer), (.slice wa ((x0.queue.filter (fun w => !(w.session == ss))).length) wc)] 202 (0, 0))), (all lockE (adel kn l)), (pts b (.cells #[(.map (some mb)), (.int .u64 (tk : Int))] 195 (0, 0))), (mp encS mb (l.map ptrE)), (sl 9 1 (some ⟨g5, 0, none⟩) ((m.map (·.1)).length) nc ((m.map (·.1)).flatMap es)), (sl 56 5 oa outx.length oc (outx.flatMap encR)), F]) rfl rfl ?_
      refine oj_nil ?_
      refine xj_then ?_
      refine cj_weak (e' := [(7, (.string (ba kn))), (0, (.pointer (some ⟨b, 0, none⟩))), (3, (.pointer (some ⟨b1, 0, none⟩))), (5, (.slice oa outx.length oc)), (12, (.slice (some ⟨g5, 0, none⟩) ((m.map (·.1)).length) nc)), (13, (.int .i64 ((m.map (·.1)).length : Int))), (14, (.int .i64 (i : Int)))]) (EnvLe.cons rfl (EnvLe.cons rfl (EnvLe.cons rfl (EnvLe.cons rfl (EnvLe.cons rfl (EnvLe.cons rfl (EnvLe.cons rfl (EnvLe.nil _)))))))) (fun _ h => h) ?_
      refine cj_region ?_
      refine oj_v (ov_move rfl rfl) rfl rfl rfl ?_
      refine oj_v (ov_move rfl rfl) rfl rfl rfl ?_
      refine oj_v (ov_move rfl rfl) rfl rfl rfl ?_
      refine oj_sat (l' := [(LockR (Lk.mk (x0.held.filter (fun y => !(y == ss))) x0.writer (x0.queue.filter (fun w => !(w.session == ss)))) p), (pts b1 (.cells #[(.int .i64 ss)] 3 (0, 0))), (all lockE (adel kn l)), (pts b (.cells #[(.map (some mb)), (.int .u64 (tk : Int))] 195 (0, 0))), (mp encS mb (l.map ptrE)), (sl 9 1 (some ⟨g5, 0, none⟩) ((m.map (·.1)).length) nc ((m.map (·.1)).flatMap es)), (sl 56 5 oa outx.length oc (outx.flatMap encR)), F]) (sat_close (r := [(pts b1 (.cells #[(.int .i64 ss)] 3 (0, 0))), (all lockE (adel kn l)), (pts b (.cells #[(.map (some mb)), (.int .u64 (tk : Int))] 195 (0, 0))), (mp encS mb (l.map ptrE)), (sl 9 1 (some ⟨g5, 0, none⟩) ((m.map (·.1)).length) nc ((m.map (·.1)).flatMap es)), (sl 56 5 oa outx.length oc (outx.flatMap encR)), F]) ⟨ha, hc, wa, wc⟩ [3, 2, 0, 1, 4, 5, 6, 7, 8, 9] (by decide +kernel) rfl rfl rfl) ?_
      refine oj_e (oe_call rfl rfl rfl Try.func128 rfl rfl (rest := [(pts b1 (.cells #[(.int .i64 ss)] 3 (0, 0))), (all lockE (adel kn l)), (sl 9 1 (some ⟨g5, 0, none⟩) ((m.map (·.1)).length) nc ((m.map (·.1)).flatMap es)), (sl 56 5 oa outx.length oc (outx.flatMap encR)), F]) (lk_serve b p mb tk n kn (l.map ptrE) (Lk.mk (x0.held.filter (fun y => !(y == ss))) x0.writer (x0.queue.filter (fun w => !(w.session == ss)))) hpk (filter_ok hxo) (by omega) hinv.2.2.1) (js := [3, 4, 0, 1, 2, 5, 6, 7]) ⟨by decide +kernel, rfl, rfl⟩) rfl rfl rfl (fun q14 => ?_)
      refine oj_eq (e' := [(49, (.slice q14.1 ((serveX tk (Lk.mk (x0.held.filter (fun y => !(y == ss))) x0.writer (x0.queue.filter (fun w => !(w.session == ss))))).1.length) q14.2)), (48, (.string (ba kn))), (47, (.pointer (some ⟨b, 0, none⟩))), (46, (.slice oa outx.length oc)), (7, (.string (ba kn))), (0, (.pointer (some ⟨b, 0, none⟩))), (3, (.pointer (some ⟨b1, 0, none⟩))), (5, (.slice oa outx.length oc)), (12, (.slice (some ⟨g5, 0, none⟩) ((m.map (·.1)).length) nc)), (13, (.int .i64 ((m.map (·.1)).length : Int))), (14, (.int .i64 (i : Int)))]) (l' := [(pts b (.cells #[(.map (some mb)), (.int .u64 ((serveX tk (Lk.mk (x0.held.filter (fun y => !(y == ss))) x0.writer (x0.queue.filter (fun w => !(w.session == ss))))).2.1 : Int))] 195 (0, 0))), (mp encS mb (if (serveX tk (Lk.mk (x0.held.filter (fun y => !(y == ss))) x0.writer (x0.queue.filter (fun w => !(w.session == ss))))).2.2.held = [] then adel kn (l.map ptrE) else l.map ptrE)), (sl 56 5 q14.1 ((serveX tk (Lk.mk (x0.held.filter (fun y => !(y == ss))) x0.writer (x0.queue.filter (fun w => !(w.session == ss))))).1.length) q14.2 (((serveX tk (Lk.mk (x0.held.filter (fun y => !(y == ss))) x0.writer (x0.queue.filter (fun w => !(w.session == ss))))).1).flatMap encR)), (LockR ((serveX tk (Lk.mk (x0.held.filter (fun y => !(y == ss))) x0.writer (x0.queue.filter (fun w => !(w.session == ss))))).2.2) p), (pts b1 (.cells #[(.int .i64 ss)] 3 (0, 0))), (all lockE (adel kn l)), (sl 9 1 (some ⟨g5, 0, none⟩) ((m.map (·.1)).length) nc ((m.map (·.1)).flatMap es)), (sl 56 5 oa outx.length oc (outx.flatMap encR)), F]) rfl rfl ?_
      obtain ⟨sa, sc⟩ := q14
      refine oj_eq (e' := [(49, (.slice sa ((serveX tk (Lk.mk (x0.held.filter (fun y => !(y == ss))) x0.writer (x0.queue.filter (fun w => !(w.session == ss))))).1.length) sc)), (48, (.string (ba kn))), (47, (.pointer (some ⟨b, 0, none⟩))), (46, (.slice oa outx.length oc)), (7, (.string (ba kn))), (0, (.pointer (some ⟨b, 0, none⟩))), (3, (.pointer (some ⟨b1, 0, none⟩))), (5, (.slice oa outx.length oc)), (12, (.slice (some ⟨g5, 0, none⟩) ((m.map (·.1)).length) nc)), (13, (.int .i64 ((m.map (·.1)).length : Int))), (14, (.int .i64 (i : Int)))]) (l' := [(pts b (.cells #[(.map (some mb)), (.int .u64 ((serveX tk (Lk.mk (x0.held.filter (fun y => !(y == ss))) x0.writer (x0.queue.filter (fun w => !(w.session == ss))))).2.1 : Int))] 195 (0, 0))), (mp encS mb (if (serveX tk (Lk.mk (x0.held.filter (fun y => !(y == ss))) x0.writer (x0.queue.filter (fun w => !(w.session == ss))))).2.2.held = [] then adel kn (l.map ptrE) else l.map ptrE)), (sl 56 5 sa ((serveX tk (Lk.mk (x0.held.filter (fun y => !(y == ss))) x0.writer (x0.queue.filter (fun w => !(w.session == ss))))).1.length) sc (((serveX tk (Lk.mk (x0.held.filter (fun y => !(y == ss))) x0.writer (x0.queue.filter (fun w => !(w.session == ss))))).1).flatMap encR)), (LockR ((serveX tk (Lk.mk (x0.held.filter (fun y => !(y == ss))) x0.writer (x0.queue.filter (fun w => !(w.session == ss))))).2.2) p), (pts b1 (.cells #[(.int .i64 ss)] 3 (0, 0))), (all lockE (adel kn l)), (sl 9 1 (some ⟨g5, 0, none⟩) ((m.map (·.1)).length) nc ((m.map (·.1)).flatMap es)), (sl 56 5 oa outx.length oc (outx.flatMap encR)), F]) rfl rfl ?_
      refine oj_e (oe_buildSlice (cells := #[(.slice oa outx.length oc), (.slice sa ((serveX tk (Lk.mk (x0.held.filter (fun y => !(y == ss))) x0.writer (x0.queue.filter (fun w => !(w.session == ss))))).1.length) sc)]) rfl T_e296 T_z85 rfl rfl rfl rfl) rfl rfl rfl (fun b15 => ?_)
      refine oj_eq (e' := [(50, (.slice (some ⟨b15, 0, none⟩) 2 2)), (49, (.slice sa ((serveX tk (Lk.mk (x0.held.filter (fun y => !(y == ss))) x0.writer (x0.queue.filter (fun w => !(w.session == ss))))).1.length) sc)), (48, (.string (ba kn))), (47, (.pointer (some ⟨b, 0, none⟩))), (46, (.slice oa outx.length oc)), (7, (.string (ba kn))), (0, (.pointer (some ⟨b, 0, none⟩))), (3, (.pointer (some ⟨b1, 0, none⟩))), (5, (.slice oa outx.length oc)), (12, (.slice (some ⟨g5, 0, none⟩) ((m.map (·.1)).length) nc)), (13, (.int .i64 ((m.map (·.1)).length : Int))), (14, (.int .i64 (i : Int)))]) (l' := [(pts b15 (.cells #[(.slice oa outx.length oc), (.slice sa ((serveX tk (Lk.mk (x0.held.filter (fun y => !(y == ss))) x0.writer (x0.queue.filter (fun w => !(w.session == ss))))).1.length) sc)] 85 (0, 0))), (pts b (.cells #[(.map (some mb)), (.int .u64 ((serveX tk (Lk.mk (x0.held.filter (fun y => !(y == ss))) x0.writer (x0.queue.filter (fun w => !(w.session == ss))))).2.1 : Int))] 195 (0, 0))), (mp encS mb (if (serveX tk (Lk.mk (x0.held.filter (fun y => !(y == ss))) x0.writer (x0.queue.filter (fun w => !(w.session == ss))))).2.2.held = [] then adel kn (l.map ptrE) else l.map ptrE)), (sl 56 5 sa ((serveX tk (Lk.mk (x0.held.filter (fun y => !(y == ss))) x0.writer (x0.queue.filter (fun w => !(w.session == ss))))).1.length) sc (((serveX tk (Lk.mk (x0.held.filter (fun y => !(y == ss))) x0.writer (x0.queue.filter (fun w => !(w.session == ss))))).1).flatMap encR)), (LockR ((serveX tk (Lk.mk (x0.held.filter (fun y => !(y == ss))) x0.writer (x0.queue.filter (fun w => !(w.session == ss))))).2.2) p), (pts b1 (.cells #[(.int .i64 ss)] 3 (0, 0))), (all lockE (adel kn l)), (sl 9 1 (some ⟨g5, 0, none⟩) ((m.map (·.1)).length) nc ((m.map (·.1)).flatMap es)), (sl 56 5 oa outx.length oc (outx.flatMap encR)), F]) rfl rfl ?_
      have hsl := serveQ_len (x0.queue.filter (fun w => !(w.session == ss))) tk (x0.held.filter (fun y => !(y == ss))) x0.writer
      have hql := List.length_filter_le (fun w : Wt => !(w.session == ss)) x0.queue
      refine oj_e (oe_call rfl rfl rfl Try.func127 rfl rfl (rest := [(pts b (.cells #[(.map (some mb)), (.int .u64 ((serveX tk (Lk.mk (x0.held.filter (fun y => !(y == ss))) x0.writer (x0.queue.filter (fun w => !(w.session == ss))))).2.1 : Int))] 195 (0, 0))), (mp encS mb (if (serveX tk (Lk.mk (x0.held.filter (fun y => !(y == ss))) x0.writer (x0.queue.filter (fun w => !(w.session == ss))))).2.2.held = [] then adel kn (l.map ptrE) else l.map ptrE)), (LockR ((serveX tk (Lk.mk (x0.held.filter (fun y => !(y == ss))) x0.writer (x0.queue.filter (fun w => !(w.session == ss))))).2.2) p), (pts b1 (.cells #[(.int .i64 ss)] 3 (0, 0))), (all lockE (adel kn l)), (sl 9 1 (some ⟨g5, 0, none⟩) ((m.map (·.1)).length) nc ((m.map (·.1)).flatMap es)), F]) (lk_join b15 oa sa oc sc outx (serveX tk (Lk.mk (x0.held.filter (fun y => !(y == ss))) x0.writer (x0.queue.filter (fun w => !(w.session == ss))))).1 (by simp only [serveX]; omega)) (js := [0, 8, 3, 1, 2, 4, 5, 6, 7, 9]) ⟨by decide +kernel, rfl, rfl⟩) rfl rfl rfl (fun q16 => ?_)
      refine oj_eq (e' := [(51, (.slice q16.1 ((outx ++ (serveX tk (Lk.mk (x0.held.filter (fun y => !(y == ss))) x0.writer (x0.queue.filter (fun w => !(w.session == ss))))).1).length) q16.2)), (50, (.slice (some ⟨b15, 0, none⟩) 2 2)), (49, (.slice sa ((serveX tk (Lk.mk (x0.held.filter (fun y => !(y == ss))) x0.writer (x0.queue.filter (fun w => !(w.session == ss))))).1.length) sc)), (48, (.string (ba kn))), (47, (.pointer (some ⟨b, 0, none⟩))), (46, (.slice oa outx.length oc)), (7, (.string (ba kn))), (0, (.pointer (some ⟨b, 0, none⟩))), (3, (.pointer (some ⟨b1, 0, none⟩))), (5, (.slice oa outx.length oc)), (12, (.slice (some ⟨g5, 0, none⟩) ((m.map (·.1)).length) nc)), (13, (.int .i64 ((m.map (·.1)).length : Int))), (14, (.int .i64 (i : Int)))]) (l' := [(sl 56 5 q16.1 ((outx ++ (serveX tk (Lk.mk (x0.held.filter (fun y => !(y == ss))) x0.writer (x0.queue.filter (fun w => !(w.session == ss))))).1).length) q16.2 ((outx ++ (serveX tk (Lk.mk (x0.held.filter (fun y => !(y == ss))) x0.writer (x0.queue.filter (fun w => !(w.session == ss))))).1).flatMap encR)), (pts b (.cells #[(.map (some mb)), (.int .u64 ((serveX tk (Lk.mk (x0.held.filter (fun y => !(y == ss))) x0.writer (x0.queue.filter (fun w => !(w.session == ss))))).2.1 : Int))] 195 (0, 0))), (mp encS mb (if (serveX tk (Lk.mk (x0.held.filter (fun y => !(y == ss))) x0.writer (x0.queue.filter (fun w => !(w.session == ss))))).2.2.held = [] then adel kn (l.map ptrE) else l.map ptrE)), (LockR ((serveX tk (Lk.mk (x0.held.filter (fun y => !(y == ss))) x0.writer (x0.queue.filter (fun w => !(w.session == ss))))).2.2) p), (pts b1 (.cells #[(.int .i64 ss)] 3 (0, 0))), (all lockE (adel kn l)), (sl 9 1 (some ⟨g5, 0, none⟩) ((m.map (·.1)).length) nc ((m.map (·.1)).flatMap es)), F]) rfl rfl ?_
      obtain ⟨ja, jc⟩ := q16
      refine oj_eq (e' := [(51, (.slice ja ((outx ++ (serveX tk (Lk.mk (x0.held.filter (fun y => !(y == ss))) x0.writer (x0.queue.filter (fun w => !(w.session == ss))))).1).length) jc)), (50, (.slice (some ⟨b15, 0, none⟩) 2 2)), (49, (.slice sa ((serveX tk (Lk.mk (x0.held.filter (fun y => !(y == ss))) x0.writer (x0.queue.filter (fun w => !(w.session == ss))))).1.length) sc)), (48, (.string (ba kn))), (47, (.pointer (some ⟨b, 0, none⟩))), (46, (.slice oa outx.length oc)), (7, (.string (ba kn))), (0, (.pointer (some ⟨b, 0, none⟩))), (3, (.pointer (some ⟨b1, 0, none⟩))), (5, (.slice oa outx.length oc)), (12, (.slice (some ⟨g5, 0, none⟩) ((m.map (·.1)).length) nc)), (13, (.int .i64 ((m.map (·.1)).length : Int))), (14, (.int .i64 (i : Int)))]) (l' := [(sl 56 5 ja ((outx ++ (serveX tk (Lk.mk (x0.held.filter (fun y => !(y == ss))) x0.writer (x0.queue.filter (fun w => !(w.session == ss))))).1).length) jc ((outx ++ (serveX tk (Lk.mk (x0.held.filter (fun y => !(y == ss))) x0.writer (x0.queue.filter (fun w => !(w.session == ss))))).1).flatMap encR)), (pts b (.cells #[(.map (some mb)), (.int .u64 ((serveX tk (Lk.mk (x0.held.filter (fun y => !(y == ss))) x0.writer (x0.queue.filter (fun w => !(w.session == ss))))).2.1 : Int))] 195 (0, 0))), (mp encS mb (if (serveX tk (Lk.mk (x0.held.filter (fun y => !(y == ss))) x0.writer (x0.queue.filter (fun w => !(w.session == ss))))).2.2.held = [] then adel kn (l.map ptrE) else l.map ptrE)), (LockR ((serveX tk (Lk.mk (x0.held.filter (fun y => !(y == ss))) x0.writer (x0.queue.filter (fun w => !(w.session == ss))))).2.2) p), (pts b1 (.cells #[(.int .i64 ss)] 3 (0, 0))), (all lockE (adel kn l)), (sl 9 1 (some ⟨g5, 0, none⟩) ((m.map (·.1)).length) nc ((m.map (·.1)).flatMap es)), F]) rfl rfl ?_
      refine oj_v (ov_assign rfl rfl) rfl rfl rfl ?_
      refine oj_nil ?_
      refine xj_block_normal ?_
      refine xj_then ?_
      refine cj_weak (e' := [(5, (.slice ja ((outx ++ (serveX tk (Lk.mk (x0.held.filter (fun y => !(y == ss))) x0.writer (x0.queue.filter (fun w => !(w.session == ss))))).1).length) jc)), (0, (.pointer (some ⟨b, 0, none⟩))), (3, (.pointer (some ⟨b1, 0, none⟩))), (12, (.slice (some ⟨g5, 0, none⟩) ((m.map (·.1)).length) nc)), (13, (.int .i64 ((m.map (·.1)).length : Int))), (14, (.int .i64 (i : Int)))]) (EnvLe.cons rfl (EnvLe.cons rfl (EnvLe.cons rfl (EnvLe.cons rfl (EnvLe.cons rfl (EnvLe.cons rfl (EnvLe.nil _))))))) (fun _ h => h) ?_
      refine cj_region ?_
      refine oj_v (ov_add rfl rfl rfl (by omega)) rfl rfl rfl ?_
      refine oj_v (ov_move rfl rfl) rfl rfl rfl ?_
      refine oj_nil ?_
      refine xj_sat (l' := [(LocksR ((serveM tk mm kn (Lk.mk (x0.held.filter (fun y => !(y == ss))) x0.writer (x0.queue.filter (fun w => !(w.session == ss))))).2.2) ((serveM tk mm kn (Lk.mk (x0.held.filter (fun y => !(y == ss))) x0.writer (x0.queue.filter (fun w => !(w.session == ss))))).2.1) b), (sl 56 5 ja ((outx ++ (serveX tk (Lk.mk (x0.held.filter (fun y => !(y == ss))) x0.writer (x0.queue.filter (fun w => !(w.session == ss))))).1).length) jc ((outx ++ (serveX tk (Lk.mk (x0.held.filter (fun y => !(y == ss))) x0.writer (x0.queue.filter (fun w => !(w.session == ss))))).1).flatMap encR)), (pts b1 (.cells #[(.int .i64 ss)] 3 (0, 0))), (sl 9 1 (some ⟨g5, 0, none⟩) ((m.map (·.1)).length) nc ((m.map (·.1)).flatMap es)), F]) (fun h hs => (locks_serve (x := x0) f7 hrl hpl) h (sat_js (l' := [(pts b (.cells #[(.map (some mb)), (.int .u64 ((serveX tk (Lk.mk (x0.held.filter (fun y => !(y == ss))) x0.writer (x0.queue.filter (fun w => !(w.session == ss))))).2.1 : Int))] 195 (0, 0))), (mp encS mb (if (serveX tk (Lk.mk (x0.held.filter (fun y => !(y == ss))) x0.writer (x0.queue.filter (fun w => !(w.session == ss))))).2.2.held = [] then adel kn (l.map ptrE) else l.map ptrE)), (LockR ((serveX tk (Lk.mk (x0.held.filter (fun y => !(y == ss))) x0.writer (x0.queue.filter (fun w => !(w.session == ss))))).2.2) p), (all lockE (adel kn l)), (sl 56 5 ja ((outx ++ (serveX tk (Lk.mk (x0.held.filter (fun y => !(y == ss))) x0.writer (x0.queue.filter (fun w => !(w.session == ss))))).1).length) jc ((outx ++ (serveX tk (Lk.mk (x0.held.filter (fun y => !(y == ss))) x0.writer (x0.queue.filter (fun w => !(w.session == ss))))).1).flatMap encR)), (pts b1 (.cells #[(.int .i64 ss)] 3 (0, 0))), (sl 9 1 (some ⟨g5, 0, none⟩) ((m.map (·.1)).length) nc ((m.map (·.1)).flatMap es)), F]) [1, 2, 3, 5, 0, 4, 6, 7] (by decide +kernel) rfl rfl h hs)) ?_
      refine xj_eq (l' := [(LocksR ((serveM tk mm kn (Lk.mk (x0.held.filter (fun y => !(y == ss))) x0.writer (x0.queue.filter (fun w => !(w.session == ss))))).2.2) ((serveM tk mm kn (Lk.mk (x0.held.filter (fun y => !(y == ss))) x0.writer (x0.queue.filter (fun w => !(w.session == ss))))).2.1) b), (sl 56 5 ja ((outx ++ (serveM tk mm kn (Lk.mk (x0.held.filter (fun y => !(y == ss))) x0.writer (x0.queue.filter (fun w => !(w.session == ss))))).1).length) jc ((outx ++ (serveM tk mm kn (Lk.mk (x0.held.filter (fun y => !(y == ss))) x0.writer (x0.queue.filter (fun w => !(w.session == ss))))).1).flatMap encR)), (pts b1 (.cells #[(.int .i64 ss)] 3 (0, 0))), (sl 9 1 (some ⟨g5, 0, none⟩) ((m.map (·.1)).length) nc ((m.map (·.1)).flatMap es)), F]) rfl (by simp only [serveM_1]) ?_
      exact xj_round ⟨(i + 1), (outx ++ (serveM tk mm kn (Lk.mk (x0.held.filter (fun y => !(y == ss))) x0.writer (x0.queue.filter (fun w => !(w.session == ss))))).1), (serveM tk mm kn (Lk.mk (x0.held.filter (fun y => !(y == ss))) x0.writer (x0.queue.filter (fun w => !(w.session == ss))))).2.1, (serveM tk mm kn (Lk.mk (x0.held.filter (fun y => !(y == ss))) x0.writer (x0.queue.filter (fun w => !(w.session == ss))))).2.2, ja, jc⟩ (by dsimp only; omega) (EnvLe.cons rfl (EnvLe.cons rfl (EnvLe.cons rfl (EnvLe.cons rfl (EnvLe.cons rfl (EnvLe.cons rfl (EnvLe.nil _))))))) (fun h hs => Sat.fact_in (gone_step hm.1 hn hinv hkn hget (by simpa using h8)) (sat_sub [3, 0, 2, 1, 4] [] (by decide +kernel) rfl rfl h hs))
  · have c17 : ¬ ((i : Int) < ((m.map (·.1)).length : Int)) := of_decide_eq_false h3
    refine cj_exit ?_
    refine xj_then_other (by simp) ?_
    refine xj_round_other (by simp) ?_
    refine xj_block_exit ?_
    refine xj_then ?_
    refine cj_weak (e' := [(5, (.slice oa outx.length oc))]) (EnvLe.cons rfl (EnvLe.nil _)) (fun _ h => h) ?_
    refine cj_seq ?_
    refine cj_region ?_
    refine oj_v (ov_move rfl rfl) rfl rfl rfl ?_
    refine oj_v (ov_assign rfl rfl) rfl rfl rfl ?_
    refine oj_nil ?_
    refine xj_then ?_
    refine cj_ret ?_
    rw [gone_end hinv (by omega)]
    refine xj_ret (vs := [(.slice oa outx.length oc)]) (oa, oc) rfl rfl ?_
    exact sat_sub [3, 1, 4] [0, 2] (by decide +kernel) rfl rfl

end Go.Proofs.Ytbjdadekheoebaa
