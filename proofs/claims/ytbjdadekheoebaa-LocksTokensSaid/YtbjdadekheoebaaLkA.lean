/- The package locks: its smaller functions. -/
import Derived.Test.YtbjdadekheoebaaLib
set_option linter.all false
set_option linter.unusedVariables false
set_option linter.unusedSimpArgs false
set_option linter.unusedSectionVars false
set_option linter.unnecessarySimpa false
namespace Go.Proofs.Ytbjdadekheoebaa
open Go.RowKit Go.Lib

def LockR (x : Lk) (p : Nat) : HP := exs fun g : Option Addr × Nat × Option Addr × Nat => [pts p (.cells #[.slice g.1 x.held.length g.2.1, .bool x.writer, .slice g.2.2.1 x.queue.length g.2.2.2] 202 (0, 0)), sl 3 1 g.1 x.held.length g.2.1 (x.held.flatMap ei), sl 197 3 g.2.2.1 x.queue.length g.2.2.2 (x.queue.flatMap encW)]
def lockE (e : Nm × Nat × Lk) : HP := LockR e.2.2 e.2.1
def ptrV (q : Nat × Lk) : Value := .pointer (some ⟨q.1, 0, none⟩)
def ptrE (e : Nm × Nat × Lk) : Nm × Value := (e.1, ptrV e.2)
def LocksR (m : Lks) (tok : Nat) (b : Nat) : HP := exs fun g : Nat × List (Nm × Nat × Lk) => [fact (g.2.map (fun e => (e.1, e.2.2)) = m), pts b (.cells #[.map (some g.1), .int .u64 (tok : Int)] 195 (0, 0)), mp encS g.1 (g.2.map ptrE), all lockE g.2]
theorem rising_l {l : List (Nm × Nat × Lk)} {m : Lks} (hm : l.map (fun e => (e.1, e.2.2)) = m) (hr : Rising m) : Rising l := by
  subst hm; unfold Rising at hr ⊢; rw [List.map_map] at hr; exact hr
theorem len_l {l : List (Nm × Nat × Lk)} {m : Lks} (hm : l.map (fun e => (e.1, e.2.2)) = m) : (l.map ptrE).length = m.length := by subst hm; simp
theorem find_no {l : List (Nm × Nat × Lk)} {m : Lks} {k : Nm} (hm : l.map (fun e => (e.1, e.2.2)) = m) (h : aget k m = none) : aget k (l.map ptrE) = none ∧ aget k l = none := by
  subst hm
  have h1 : aget k (l.map fun e => (e.1, e.2.2)) = (aget k l).map (·.2) := aget_map (f := fun q : Nat × Lk => q.2)
  rw [h1] at h
  have h2 : aget k l = none := by simpa using h
  refine ⟨?_, h2⟩
  have h3 : aget k (l.map ptrE) = (aget k l).map ptrV := aget_map (f := ptrV)
  rw [h3, h2]; rfl
theorem find_yes {l : List (Nm × Nat × Lk)} {m : Lks} {k : Nm} {x : Lk} (hm : l.map (fun e => (e.1, e.2.2)) = m) (h : aget k m = some x) : ∃ p, aget k l = some (p, x) ∧ aget k (l.map ptrE) = some (.pointer (some ⟨p, 0, none⟩)) := by
  subst hm
  have h1 : aget k (l.map fun e => (e.1, e.2.2)) = (aget k l).map (·.2) := aget_map (f := fun q : Nat × Lk => q.2)
  rw [h1] at h
  obtain ⟨⟨p, y⟩, h2, h3⟩ := Option.map_eq_some_iff.1 h
  simp only at h3; subst h3
  refine ⟨p, h2, ?_⟩
  have h3 : aget k (l.map ptrE) = (aget k l).map ptrV := aget_map (f := ptrV)
  rw [h3, h2]; rfl
theorem locks_take {l : List (Nm × Nat × Lk)} {k : Nm} {p : Nat} {x : Lk} {rest : List HP} (hr : Rising l) (hg : aget k l = some (p, x)) : ∀ h, Sat (all lockE l :: rest) h → Sat (LockR x p :: all lockE (adel k l) :: rest) h := fun h hs => sat_all_take 0 rfl (adel_perm hr.nodup hg) h hs
theorem locks_back {l : List (Nm × Nat × Lk)} {m : Lks} {k : Nm} {p mb b tok : Nat} {x : Lk} {rest : List HP} (hm : l.map (fun e => (e.1, e.2.2)) = m) (hr : Rising l) (hg : aget k l = some (p, x)) : ∀ h, Sat (pts b (.cells #[.map (some mb), .int .u64 (tok : Int)] 195 (0, 0)) :: mp encS mb (l.map ptrE) :: LockR x p :: all lockE (adel k l) :: rest) h → Sat (LocksR m tok b :: rest) h := fun h hs => by
  refine ex_close (A := fun g : Nat × List (Nm × Nat × Lk) => [fact (g.2.map (fun e => (e.1, e.2.2)) = m), pts b (.cells #[.map (some g.1), .int .u64 (tok : Int)] 195 (0, 0)), mp encS g.1 (g.2.map ptrE), all lockE g.2]) (mb, l) (Sat.fact_in hm ?_)
  exact Sat.tail_mono (fun _ h1 => Sat.tail_mono (fun _ h2 => sat_all_put (adel_perm hr.nodup hg).symm _ h2) h1) hs
theorem locks_put {l : List (Nm × Nat × Lk)} {m : Lks} {k : Nm} {p mb b tok : Nat} {x x' : Lk} {rest : List HP} (hm : l.map (fun e => (e.1, e.2.2)) = m) (hr : Rising l) (hg : aget k l = some (p, x)) : ∀ h, Sat (pts b (.cells #[.map (some mb), .int .u64 (tok : Int)] 195 (0, 0)) :: mp encS mb (l.map ptrE) :: LockR x' p :: all lockE (adel k l) :: rest) h → Sat (LocksR (aput k x' m) tok b :: rest) h := fun h hs => by
  have e1 : (aput k (p, x') l).map ptrE = l.map ptrE := by
    have h1 : (aput k (p, x') l).map ptrE = aput k (ptrV (p, x')) (l.map ptrE) := aput_map (f := ptrV)
    have h2 : aget k (l.map ptrE) = (aget k l).map ptrV := aget_map (f := ptrV)
    rw [h1]
    refine aput_same ?_ (by rw [h2, hg]; rfl)
    unfold Rising at hr ⊢; rw [List.map_map]; exact hr
  have e2 : (aput k (p, x') l).map (fun e => (e.1, e.2.2)) = aput k x' m := by rw [← hm]; exact aput_map (f := fun q : Nat × Lk => q.2)
  refine ex_close (A := fun g : Nat × List (Nm × Nat × Lk) => [fact (g.2.map (fun e => (e.1, e.2.2)) = aput k x' m), pts b (.cells #[.map (some g.1), .int .u64 (tok : Int)] 195 (0, 0)), mp encS g.1 (g.2.map ptrE), all lockE g.2]) (mb, aput k (p, x') l) (Sat.fact_in e2 ?_)
  rw [e1]
  exact Sat.tail_mono (fun _ h1 => Sat.tail_mono (fun _ h2 => sat_all_put (x := (k, p, x')) (aput_perm hr).symm _ h2) h1) hs
theorem locks_new {l : List (Nm × Nat × Lk)} {m : Lks} {k : Nm} {p mb b tok : Nat} {x' : Lk} {rest : List HP} (hm : l.map (fun e => (e.1, e.2.2)) = m) (hr : Rising l) (hg : aget k l = none) : ∀ h, Sat (pts b (.cells #[.map (some mb), .int .u64 (tok : Int)] 195 (0, 0)) :: mp encS mb ((k, .pointer (some ⟨p, 0, none⟩)) :: adel k (l.map ptrE)) :: LockR x' p :: all lockE l :: rest) h → Sat (LocksR (aput k x' m) tok b :: rest) h := fun h hs => by
  have e1 : ((k, .pointer (some ⟨p, 0, none⟩)) :: adel k (l.map ptrE)).Perm ((aput k (p, x') l).map ptrE) := by
    have h1 : (aput k (p, x') l).map ptrE = aput k (ptrV (p, x')) (l.map ptrE) := aput_map (f := ptrV)
    rw [h1]
    refine (aput_perm ?_).symm
    unfold Rising at hr ⊢; rw [List.map_map]; exact hr
  have e2 : (aput k (p, x') l).map (fun e => (e.1, e.2.2)) = aput k x' m := by rw [← hm]; exact aput_map (f := fun q : Nat × Lk => q.2)
  have e3 := aput_perm (k := k) (v := (p, x')) hr
  rw [adel_none hg] at e3
  refine ex_close (A := fun g : Nat × List (Nm × Nat × Lk) => [fact (g.2.map (fun e => (e.1, e.2.2)) = aput k x' m), pts b (.cells #[.map (some g.1), .int .u64 (tok : Int)] 195 (0, 0)), mp encS g.1 (g.2.map ptrE), all lockE g.2]) (mb, aput k (p, x') l) (Sat.fact_in e2 ?_)
  exact Sat.tail_mono (fun _ h1 => Sat.tail_mono (fun _ h2 => sat_all_put (x := (k, p, x')) e3.symm _ h2) (Sat.head_mono (mp_perm e1) h1)) hs
theorem locks_del {l : List (Nm × Nat × Lk)} {m : Lks} {k : Nm} {mb b tok : Nat} {rest : List HP} (hm : l.map (fun e => (e.1, e.2.2)) = m) : ∀ h, Sat (pts b (.cells #[.map (some mb), .int .u64 (tok : Int)] 195 (0, 0)) :: mp encS mb (adel k (l.map ptrE)) :: all lockE (adel k l) :: rest) h → Sat (LocksR (adel k m) tok b :: rest) h := fun h hs => by
  have e1 : adel k (l.map ptrE) = (adel k l).map ptrE := adel_map (f := ptrV)
  have e2 : (adel k l).map (fun e => (e.1, e.2.2)) = adel k m := by rw [← hm]; exact (adel_map (f := fun q : Nat × Lk => q.2)).symm
  rw [e1] at hs
  exact ex_close (A := fun g : Nat × List (Nm × Nat × Lk) => [fact (g.2.map (fun e => (e.1, e.2.2)) = adel k m), pts b (.cells #[.map (some g.1), .int .u64 (tok : Int)] 195 (0, 0)), mp encS g.1 (g.2.map ptrE), all lockE g.2]) (mb, adel k l) (Sat.fact_in e2 hs)
theorem locks_none {mb b : Nat} {rest : List HP} : ∀ h, Sat (pts b (.cells #[.map (some mb), .int .u64 0] 195 (0, 0)) :: mp encS mb [] :: rest) h → Sat (LocksR [] 0 b :: rest) h := fun h hs =>
  ex_close (A := fun g : Nat × List (Nm × Nat × Lk) => [fact (g.2.map (fun e => (e.1, e.2.2)) = []), pts b (.cells #[.map (some g.1), .int .u64 ((0 : Nat) : Int)] 195 (0, 0)), mp encS g.1 (g.2.map ptrE), all lockE g.2]) (mb, []) (Sat.fact_in rfl (Sat.tail_mono (fun _ h2 => Sat.tail_mono (fun _ h3 => all_nil _ h3) h2) hs))
theorem locks_close {l : List (Nm × Nat × Lk)} {m : Lks} {mb b tok : Nat} {rest : List HP} (hm : l.map (fun e => (e.1, e.2.2)) = m) : ∀ h, Sat (pts b (.cells #[.map (some mb), .int .u64 (tok : Int)] 195 (0, 0)) :: mp encS mb (l.map ptrE) :: all lockE l :: rest) h → Sat (LocksR m tok b :: rest) h := fun h hs =>
  ex_close (A := fun g : Nat × List (Nm × Nat × Lk) => [fact (g.2.map (fun e => (e.1, e.2.2)) = m), pts b (.cells #[.map (some g.1), .int .u64 (tok : Int)] 195 (0, 0)), mp encS g.1 (g.2.map ptrE), all lockE g.2]) (mb, l) (Sat.fact_in hm hs)
theorem wrap_succ {n : Nat} (h : n < 18446744073709551615) : IntKind.u64.wrap ((n : Int) + 1) = ((n + 1 : Nat) : Int) := by
  rw [Int.natCast_add]; exact IntWalk.u64_in _ (by omega)

set_option maxRecDepth 100000 in
set_option maxHeartbeats 8000000 in
theorem lk_new  : Spec Try.prog 37 [] [] (fun x : Nat => .pointer (some ⟨x, 0, none⟩)) (fun x : Nat => [LocksR [] 0 x]) := by
  refine spec_of (fn := Try.f37) Try.func37 rfl rfl rfl fun F s => ?_
  show CJ _ _ _ _ _ [] [F]
  refine cj_seq ?_
  refine cj_region ?_
  refine oj_v (ov_assign rfl rfl) rfl rfl rfl ?_
  refine oj_nil ?_
  refine xj_then ?_
  refine cj_seq ?_
  refine cj_region ?_
  refine oj_e (oe_makeMap encS rfl) rfl rfl rfl (fun mb1 => ?_)
  refine oj_eq (e' := [(1, (.map (some mb1))), (0, (.pointer none))]) (l' := [(mp encS mb1 []), F]) rfl rfl ?_
  refine oj_v (ov_build (cells := #[(.map (some mb1)), (.int .u64 0)]) rfl T_z195 T_p195 rfl rfl) rfl rfl rfl ?_
  refine oj_e (oe_box rfl rfl) rfl rfl rfl (fun b2 => ?_)
  refine oj_eq (e' := [(3, (.pointer (some ⟨b2, 0, none⟩))), (2, (.agg #[(.map (some mb1)), (.int .u64 0)])), (1, (.map (some mb1))), (0, (.pointer none))]) (l' := [(pts b2 (.cells #[(.map (some mb1)), (.int .u64 0)] 195 (0, 0))), (mp encS mb1 []), F]) rfl rfl ?_
  refine oj_v (ov_assign rfl rfl) rfl rfl rfl ?_
  refine oj_nil ?_
  refine xj_then ?_
  refine cj_weak (e' := [(0, (.pointer (some ⟨b2, 0, none⟩)))]) (EnvLe.cons rfl (EnvLe.nil _)) (fun _ h => h) ?_
  refine cj_ret ?_
  refine xj_ret (vs := [(.pointer (some ⟨b2, 0, none⟩))]) b2 rfl rfl ?_
  exact fun h hs => locks_none h (sat_sub (l' := [(pts b2 (.cells #[(.map (some mb1)), (.int .u64 0)] 195 (0, 0))), (mp encS mb1 []), F]) [0, 1, 2] [] (by decide +kernel) rfl rfl h hs)

set_option maxRecDepth 100000 in
set_option maxHeartbeats 8000000 in
theorem lk_token (b tok : Nat) (m : Lks) : Spec Try.prog 40 [(.pointer (some ⟨b, 0, none⟩))] [(LocksR m tok b)] (fun x : Unit => .int .u64 (tok : Int)) (fun x : Unit => [LocksR m tok b]) := by
  refine spec_of (fn := Try.f40) Try.func40 rfl rfl rfl fun F s => ?_
  show CJ _ _ _ _ _ [(0, (.pointer (some ⟨b, 0, none⟩)))] [(LocksR m tok b), F]
  refine cj_seq ?_
  refine cj_out (sat_open 0 rfl) (fun x1 => ?_)
  obtain ⟨mb, l⟩ := x1
  refine cj_eq (e' := [(0, (.pointer (some ⟨b, 0, none⟩)))]) (l' := [(fact (l.map (fun e => (e.1, e.2.2)) = m)), (pts b (.cells #[(.map (some mb)), (.int .u64 (tok : Int))] 195 (0, 0))), (mp encS mb (l.map ptrE)), (all lockE l), F]) rfl rfl ?_
  refine cj_fact (sat_fact 0 rfl) (fun f2 => ?_)
  refine cj_sat (l' := [(pts b (.cells #[(.map (some mb)), (.int .u64 (tok : Int))] 195 (0, 0))), (mp encS mb (l.map ptrE)), (all lockE l), F]) (sat_sub [1, 2, 3, 4] [0] (by decide +kernel) rfl rfl) ?_
  refine cj_region ?_
  refine oj_v (ov_assign rfl rfl) rfl rfl rfl ?_
  refine oj_nil ?_
  refine xj_then ?_
  refine cj_seq ?_
  refine cj_seq ?_
  refine cj_region ?_
  refine oj_v (ov_move rfl rfl) rfl rfl rfl ?_
  refine oj_v (ov_peql rfl rfl rfl Try.underlying78) rfl rfl rfl ?_
  refine oj_nil ?_
  refine xj_then ?_
  refine cj_false rfl ?_
  refine cj_skip ?_
  refine xj_then ?_
  refine cj_seq ?_
  refine cj_region ?_
  refine oj_v (ov_move rfl rfl) rfl rfl rfl ?_
  refine oj_v (ov_nilCheck rfl rfl) rfl rfl rfl ?_
  refine oj_v (ov_fieldAddr rfl rfl T_f195_1) rfl rfl rfl ?_
  refine oj_v (ov_load1 (v := (.int .u64 (tok : Int))) rfl rfl T_o54 (rd_pts (i := 0) rfl rfl)) rfl rfl rfl ?_
  refine oj_v (ov_assign rfl rfl) rfl rfl rfl ?_
  refine oj_nil ?_
  refine xj_then ?_
  refine cj_weak (e' := [(2, (.int .u64 (tok : Int)))]) (EnvLe.cons rfl (EnvLe.nil _)) (fun _ h => h) ?_
  refine cj_ret ?_
  refine xj_ret (vs := [(.int .u64 (tok : Int))]) () rfl rfl ?_
  exact fun h hs => ex_close (l := [F]) (h := h) (mb, l) (Sat.fact_in f2 (sat_js (l' := [_, _, _, F]) [0, 1, 2, 3] (by decide +kernel) rfl rfl h hs))

set_option maxRecDepth 100000 in
set_option maxHeartbeats 8000000 in
theorem lk_setToken (b tok t : Nat) (m : Lks) : Spec Try.prog 38 [(.pointer (some ⟨b, 0, none⟩)), (.int .u64 (t : Int))] [(LocksR m tok b)] (fun x : Unit => .tuple #[]) (fun x : Unit => [LocksR m t b]) := by
  refine spec_of (fn := Try.f38) Try.func38 rfl rfl rfl fun F s => ?_
  show CJ _ _ _ _ _ [(0, (.pointer (some ⟨b, 0, none⟩))), (1, (.int .u64 (t : Int)))] [(LocksR m tok b), F]
  refine cj_seq ?_
  refine cj_out (sat_open 0 rfl) (fun x1 => ?_)
  obtain ⟨mb, l⟩ := x1
  refine cj_eq (e' := [(0, (.pointer (some ⟨b, 0, none⟩))), (1, (.int .u64 (t : Int)))]) (l' := [(fact (l.map (fun e => (e.1, e.2.2)) = m)), (pts b (.cells #[(.map (some mb)), (.int .u64 (tok : Int))] 195 (0, 0))), (mp encS mb (l.map ptrE)), (all lockE l), F]) rfl rfl ?_
  refine cj_fact (sat_fact 0 rfl) (fun f2 => ?_)
  refine cj_sat (l' := [(pts b (.cells #[(.map (some mb)), (.int .u64 (tok : Int))] 195 (0, 0))), (mp encS mb (l.map ptrE)), (all lockE l), F]) (sat_sub [1, 2, 3, 4] [0] (by decide +kernel) rfl rfl) ?_
  refine cj_region ?_
  refine oj_v (ov_move rfl rfl) rfl rfl rfl ?_
  refine oj_v (ov_pneq rfl rfl rfl Try.underlying78) rfl rfl rfl ?_
  refine oj_nil ?_
  refine xj_then ?_
  refine cj_true rfl ?_
  refine cj_region ?_
  refine oj_v (ov_move rfl rfl) rfl rfl rfl ?_
  refine oj_v (ov_move rfl rfl) rfl rfl rfl ?_
  refine oj_v (ov_nilCheck rfl rfl) rfl rfl rfl ?_
  refine oj_v (ov_fieldAddr rfl rfl T_f195_1) rfl rfl rfl ?_
  refine oj_e0 (oe_store1 (i := 0) rfl rfl rfl T_o54 rfl rfl rfl) rfl rfl (fun _ => ?_)
  refine oj_eq (e' := [(9, (.pointer (some ⟨b, 1, none⟩))), (8, (.pointer (some ⟨b, 0, none⟩))), (7, (.int .u64 (t : Int))), (6, (.pointer (some ⟨b, 0, none⟩))), (5, (.bool true)), (4, (.pointer (some ⟨b, 0, none⟩))), (0, (.pointer (some ⟨b, 0, none⟩))), (1, (.int .u64 (t : Int)))]) (l' := [(pts b (.cells #[(.map (some mb)), (.int .u64 (t : Int))] 195 (0, 0))), (mp encS mb (l.map ptrE)), (all lockE l), F]) rfl rfl ?_
  refine oj_nil ?_
  refine xj_end (vs := []) () rfl rfl ?_
  exact fun h hs => ex_close (l := [F]) (h := h) (mb, l) (Sat.fact_in f2 (sat_js (l' := [_, _, _, F]) [0, 1, 2, 3] (by decide +kernel) rfl rfl h hs))

set_option maxRecDepth 100000 in
set_option maxHeartbeats 8000000 in
theorem lk_one (c : Cm) (e : Int) : Spec Try.prog 121 [(.agg #[(.int .i64 c.kind), (.int .i64 c.session), (.int .i64 c.seq), (.string (ba c.name)), (.int .i64 c.n)]), (.int .i64 e)] [] (fun x : Option Addr × Nat => .slice x.1 1 x.2) (fun x : Option Addr × Nat => [sl 56 5 x.1 1 x.2 ((oneR c e).flatMap encR)]) := by
  refine spec_of (fn := Try.f121) Try.func121 rfl rfl rfl fun F s => ?_
  show CJ _ _ _ _ _ [(0, (.agg #[(.int .i64 c.kind), (.int .i64 c.session), (.int .i64 c.seq), (.string (ba c.name)), (.int .i64 c.n)])), (1, (.int .i64 e))] [F]
  refine cj_seq ?_
  refine cj_region ?_
  refine oj_e (oe_box rfl rfl) rfl rfl rfl (fun b1 => ?_)
  refine oj_eq (e' := [(2, (.pointer (some ⟨b1, 0, none⟩))), (0, (.agg #[(.int .i64 c.kind), (.int .i64 c.session), (.int .i64 c.seq), (.string (ba c.name)), (.int .i64 c.n)])), (1, (.int .i64 e))]) (l' := [(pts b1 (.cells #[(.int .i64 c.kind), (.int .i64 c.session), (.int .i64 c.seq), (.string (ba c.name)), (.int .i64 c.n)] 24 (0, 0))), F]) rfl rfl ?_
  refine oj_v (ov_assign rfl rfl) rfl rfl rfl ?_
  refine oj_nil ?_
  refine xj_then ?_
  refine cj_seq ?_
  refine cj_region ?_
  refine oj_v (ov_fieldAddr rfl rfl T_f24_1) rfl rfl rfl ?_
  refine oj_v (ov_load1 (v := (.int .i64 c.session)) rfl rfl T_o3 (rd_pts (i := 0) rfl rfl)) rfl rfl rfl ?_
  refine oj_v (ov_fieldAddr rfl rfl T_f24_2) rfl rfl rfl ?_
  refine oj_v (ov_load1 (v := (.int .i64 c.seq)) rfl rfl T_o3 (rd_pts (i := 0) rfl rfl)) rfl rfl rfl ?_
  refine oj_v (ov_move rfl rfl) rfl rfl rfl ?_
  refine oj_v (ov_build (cells := #[(.int .i64 c.session), (.int .i64 c.seq), (.int .i64 e), (.int .u64 0), (.int .i64 0)]) rfl T_z56 T_p56 rfl rfl) rfl rfl rfl ?_
  refine oj_e (oe_buildSlice (cells := #[(.int .i64 c.session), (.int .i64 c.seq), (.int .i64 e), (.int .u64 0), (.int .i64 0)]) rfl T_e85 T_z56 rfl rfl rfl rfl) rfl rfl rfl (fun b2 => ?_)
  refine oj_eq (e' := [(11, (.slice (some ⟨b2, 0, none⟩) 1 1)), (10, (.agg #[(.int .i64 c.session), (.int .i64 c.seq), (.int .i64 e), (.int .u64 0), (.int .i64 0)])), (9, (.int .i64 e)), (8, (.int .i64 c.seq)), (7, (.pointer (some ⟨b1, 2, none⟩))), (6, (.int .i64 c.session)), (5, (.pointer (some ⟨b1, 1, none⟩))), (4, (.slice none 0 0)), (2, (.pointer (some ⟨b1, 0, none⟩))), (0, (.agg #[(.int .i64 c.kind), (.int .i64 c.session), (.int .i64 c.seq), (.string (ba c.name)), (.int .i64 c.n)])), (1, (.int .i64 e))]) (l' := [(pts b2 (.cells #[(.int .i64 c.session), (.int .i64 c.seq), (.int .i64 e), (.int .u64 0), (.int .i64 0)] 56 (0, 0))), (pts b1 (.cells #[(.int .i64 c.kind), (.int .i64 c.session), (.int .i64 c.seq), (.string (ba c.name)), (.int .i64 c.n)] 24 (0, 0))), F]) rfl rfl ?_
  refine oj_v (ov_assign rfl rfl) rfl rfl rfl ?_
  refine oj_nil ?_
  refine xj_then ?_
  refine cj_weak (e' := [(4, (.slice (some ⟨b2, 0, none⟩) 1 1))]) (EnvLe.cons rfl (EnvLe.nil _)) (fun _ h => h) ?_
  refine cj_ret ?_
  refine xj_ret (vs := [(.slice (some ⟨b2, 0, none⟩) 1 1)]) (some ⟨b2, 0, none⟩, 1) rfl rfl ?_
  exact fun h hs => (fun h hs => Sat.head_mono (sl_of_pts (m := 1) (k := 5) rfl (by decide)) hs) h (sat_sub (l' := [(pts b2 (.cells #[(.int .i64 c.session), (.int .i64 c.seq), (.int .i64 e), (.int .u64 0), (.int .i64 0)] 56 (0, 0))), F]) [0, 2] [1] (by decide +kernel) rfl rfl h hs)


def fitM (c : Cm) : Bool := decide ((1 : Int) ≤ c.session) && (decide (c.session ≤ 1073741824) && (decide ((1 : Int) ≤ c.seq) && (decide (c.seq ≤ 1073741824) && (decide ((1 : Int) ≤ (c.name.length : Int)) && decide ((c.name.length : Int) ≤ 64)))))

set_option maxRecDepth 100000 in
set_option maxHeartbeats 8000000 in
theorem lk_fit (c : Cm) : Spec Try.prog 39 [(.agg #[(.int .i64 c.kind), (.int .i64 c.session), (.int .i64 c.seq), (.string (ba c.name)), (.int .i64 c.n)])] [] (fun x : Unit => .bool (fitM c)) (fun x : Unit => []) := by
  refine spec_of (fn := Try.f39) Try.func39 rfl rfl rfl fun F s => ?_
  show CJ _ _ _ _ _ [(0, (.agg #[(.int .i64 c.kind), (.int .i64 c.session), (.int .i64 c.seq), (.string (ba c.name)), (.int .i64 c.n)]))] [F]
  refine cj_seq ?_
  refine cj_region ?_
  refine oj_e (oe_box rfl rfl) rfl rfl rfl (fun b1 => ?_)
  refine oj_eq (e' := [(1, (.pointer (some ⟨b1, 0, none⟩))), (0, (.agg #[(.int .i64 c.kind), (.int .i64 c.session), (.int .i64 c.seq), (.string (ba c.name)), (.int .i64 c.n)]))]) (l' := [(pts b1 (.cells #[(.int .i64 c.kind), (.int .i64 c.session), (.int .i64 c.seq), (.string (ba c.name)), (.int .i64 c.n)] 24 (0, 0))), F]) rfl rfl ?_
  refine oj_v (ov_assign rfl rfl) rfl rfl rfl ?_
  refine oj_nil ?_
  refine xj_then ?_
  refine cj_seq ?_
  refine cj_pass (e' := [(2, (.bool ((((((decide (1 ≤ c.session)) && (decide (c.session ≤ 1073741824))) && (decide (1 ≤ c.seq))) && (decide (c.seq ≤ 1073741824))) && (decide (1 ≤ ((ba c.name).size : Int)))) && (decide (((ba c.name).size : Int) ≤ 64)))))]) (l' := [(pts b1 (.cells #[(.int .i64 c.kind), (.int .i64 c.session), (.int .i64 c.seq), (.string (ba c.name)), (.int .i64 c.n)] 24 (0, 0))), F]) ?_ ?_
  · refine cj_region ?_
    refine og_v (ov_fieldAddr rfl rfl T_f24_1) rfl rfl rfl ?_
    refine og_v (ov_load1 (v := (.int .i64 c.session)) rfl rfl T_o3 (rd_pts (i := 0) rfl rfl)) rfl rfl rfl ?_
    refine og_v (ov_geq rfl rfl rfl) rfl rfl rfl ?_
    refine og_v (ov_move rfl rfl) rfl rfl rfl ?_
    refine oj_case (fun h2 => ?_) (fun h2 => ?_)
    · have c3 : 1 ≤ c.session := of_decide_eq_true h2
      refine og_v (ov_fieldAddr rfl rfl T_f24_1) rfl rfl rfl ?_
      refine og_v (ov_load1 (v := (.int .i64 c.session)) rfl rfl T_o3 (rd_pts (i := 0) rfl rfl)) rfl rfl rfl ?_
      refine og_v (ov_leq rfl rfl rfl) rfl rfl rfl ?_
      refine og_v (ov_pick rfl rfl rfl rfl) rfl rfl rfl ?_
      refine og_v (ov_move rfl rfl) rfl rfl rfl ?_
      refine oj_case (fun h4 => ?_) (fun h4 => ?_)
      · have c5 : c.session ≤ 1073741824 := of_decide_eq_true h4
        refine og_v (ov_fieldAddr rfl rfl T_f24_2) rfl rfl rfl ?_
        refine og_v (ov_load1 (v := (.int .i64 c.seq)) rfl rfl T_o3 (rd_pts (i := 0) rfl rfl)) rfl rfl rfl ?_
        refine og_v (ov_geq rfl rfl rfl) rfl rfl rfl ?_
        refine og_v (ov_pick rfl rfl rfl rfl) rfl rfl rfl ?_
        refine og_v (ov_move rfl rfl) rfl rfl rfl ?_
        refine oj_case (fun h6 => ?_) (fun h6 => ?_)
        · have c7 : 1 ≤ c.seq := of_decide_eq_true h6
          refine og_v (ov_fieldAddr rfl rfl T_f24_2) rfl rfl rfl ?_
          refine og_v (ov_load1 (v := (.int .i64 c.seq)) rfl rfl T_o3 (rd_pts (i := 0) rfl rfl)) rfl rfl rfl ?_
          refine og_v (ov_leq rfl rfl rfl) rfl rfl rfl ?_
          refine og_v (ov_pick rfl rfl rfl rfl) rfl rfl rfl ?_
          refine og_v (ov_move rfl rfl) rfl rfl rfl ?_
          refine oj_case (fun h8 => ?_) (fun h8 => ?_)
          · have c9 : c.seq ≤ 1073741824 := of_decide_eq_true h8
            refine og_v (ov_fieldAddr rfl rfl T_f24_3) rfl rfl rfl ?_
            refine og_v (ov_load1 (v := (.string (ba c.name))) rfl rfl T_o9 (rd_pts (i := 0) rfl rfl)) rfl rfl rfl ?_
            refine og_v (ov_lenS rfl rfl rfl Try.underlying9) rfl rfl rfl ?_
            refine og_v (ov_geq rfl rfl rfl) rfl rfl rfl ?_
            refine og_v (ov_pick rfl rfl rfl rfl) rfl rfl rfl ?_
            refine og_v (ov_move rfl rfl) rfl rfl rfl ?_
            refine oj_case (fun h10 => ?_) (fun h10 => ?_)
            · have c11 : 1 ≤ ((ba c.name).size : Int) := of_decide_eq_true h10
              refine og_v (ov_fieldAddr rfl rfl T_f24_3) rfl rfl rfl ?_
              refine og_v (ov_load1 (v := (.string (ba c.name))) rfl rfl T_o9 (rd_pts (i := 0) rfl rfl)) rfl rfl rfl ?_
              refine og_v (ov_lenS rfl rfl rfl Try.underlying9) rfl rfl rfl ?_
              refine og_v (ov_leq rfl rfl rfl) rfl rfl rfl ?_
              refine og_v (ov_pick rfl rfl rfl rfl) rfl rfl rfl ?_
              refine og_v (ov_assign rfl rfl) rfl rfl rfl ?_
              refine oj_nil ?_
              exact xj_pass (EnvLe.cons (by first | (simp [look, h2, h4, h6, h8, h10]; done) | (simp [look, h2, h4, h6, h8, h10]; omega) | (simp [look, h2, h4, h6, h8, h10]; intros; omega)) (EnvLe.nil _)) (fun _ h => h)
            · have c12 : ¬ (1 ≤ ((ba c.name).size : Int)) := of_decide_eq_false h10
              refine og_skip rfl rfl rfl ?_
              refine og_skip rfl rfl rfl ?_
              refine og_skip rfl rfl rfl ?_
              refine og_skip rfl rfl rfl ?_
              refine og_v (ov_pick rfl rfl rfl rfl) rfl rfl rfl ?_
              refine og_v (ov_assign rfl rfl) rfl rfl rfl ?_
              refine oj_nil ?_
              exact xj_pass (EnvLe.cons (by first | (simp [look, h2, h4, h6, h8, h10]; done) | (simp [look, h2, h4, h6, h8, h10]; omega) | (simp [look, h2, h4, h6, h8, h10]; intros; omega)) (EnvLe.nil _)) (fun _ h => h)
          · have c13 : ¬ (c.seq ≤ 1073741824) := of_decide_eq_false h8
            refine og_skip rfl rfl rfl ?_
            refine og_skip rfl rfl rfl ?_
            refine og_skip rfl rfl rfl ?_
            refine og_skip rfl rfl rfl ?_
            refine og_v (ov_pick rfl rfl rfl rfl) rfl rfl rfl ?_
            refine og_v (ov_move rfl rfl) rfl rfl rfl ?_
            refine og_skip rfl rfl rfl ?_
            refine og_skip rfl rfl rfl ?_
            refine og_skip rfl rfl rfl ?_
            refine og_skip rfl rfl rfl ?_
            refine og_v (ov_pick rfl rfl rfl rfl) rfl rfl rfl ?_
            refine og_v (ov_assign rfl rfl) rfl rfl rfl ?_
            refine oj_nil ?_
            exact xj_pass (EnvLe.cons (by first | (simp [look, h2, h4, h6, h8]; done) | (simp [look, h2, h4, h6, h8]; omega) | (simp [look, h2, h4, h6, h8]; intros; omega)) (EnvLe.nil _)) (fun _ h => h)
        · have c14 : ¬ (1 ≤ c.seq) := of_decide_eq_false h6
          refine og_skip rfl rfl rfl ?_
          refine og_skip rfl rfl rfl ?_
          refine og_skip rfl rfl rfl ?_
          refine og_v (ov_pick rfl rfl rfl rfl) rfl rfl rfl ?_
          refine og_v (ov_move rfl rfl) rfl rfl rfl ?_
          refine og_skip rfl rfl rfl ?_
          refine og_skip rfl rfl rfl ?_
          refine og_skip rfl rfl rfl ?_
          refine og_skip rfl rfl rfl ?_
          refine og_v (ov_pick rfl rfl rfl rfl) rfl rfl rfl ?_
          refine og_v (ov_move rfl rfl) rfl rfl rfl ?_
          refine og_skip rfl rfl rfl ?_
          refine og_skip rfl rfl rfl ?_
          refine og_skip rfl rfl rfl ?_
          refine og_skip rfl rfl rfl ?_
          refine og_v (ov_pick rfl rfl rfl rfl) rfl rfl rfl ?_
          refine og_v (ov_assign rfl rfl) rfl rfl rfl ?_
          refine oj_nil ?_
          exact xj_pass (EnvLe.cons (by first | (simp [look, h2, h4, h6]; done) | (simp [look, h2, h4, h6]; omega) | (simp [look, h2, h4, h6]; intros; omega)) (EnvLe.nil _)) (fun _ h => h)
      · have c15 : ¬ (c.session ≤ 1073741824) := of_decide_eq_false h4
        refine og_skip rfl rfl rfl ?_
        refine og_skip rfl rfl rfl ?_
        refine og_skip rfl rfl rfl ?_
        refine og_v (ov_pick rfl rfl rfl rfl) rfl rfl rfl ?_
        refine og_v (ov_move rfl rfl) rfl rfl rfl ?_
        refine og_skip rfl rfl rfl ?_
        refine og_skip rfl rfl rfl ?_
        refine og_skip rfl rfl rfl ?_
        refine og_v (ov_pick rfl rfl rfl rfl) rfl rfl rfl ?_
        refine og_v (ov_move rfl rfl) rfl rfl rfl ?_
        refine og_skip rfl rfl rfl ?_
        refine og_skip rfl rfl rfl ?_
        refine og_skip rfl rfl rfl ?_
        refine og_skip rfl rfl rfl ?_
        refine og_v (ov_pick rfl rfl rfl rfl) rfl rfl rfl ?_
        refine og_v (ov_move rfl rfl) rfl rfl rfl ?_
        refine og_skip rfl rfl rfl ?_
        refine og_skip rfl rfl rfl ?_
        refine og_skip rfl rfl rfl ?_
        refine og_skip rfl rfl rfl ?_
        refine og_v (ov_pick rfl rfl rfl rfl) rfl rfl rfl ?_
        refine og_v (ov_assign rfl rfl) rfl rfl rfl ?_
        refine oj_nil ?_
        exact xj_pass (EnvLe.cons (by first | (simp [look, h2, h4]; done) | (simp [look, h2, h4]; omega) | (simp [look, h2, h4]; intros; omega)) (EnvLe.nil _)) (fun _ h => h)
    · have c16 : ¬ (1 ≤ c.session) := of_decide_eq_false h2
      refine og_skip rfl rfl rfl ?_
      refine og_skip rfl rfl rfl ?_
      refine og_skip rfl rfl rfl ?_
      refine og_v (ov_pick rfl rfl rfl rfl) rfl rfl rfl ?_
      refine og_v (ov_move rfl rfl) rfl rfl rfl ?_
      refine og_skip rfl rfl rfl ?_
      refine og_skip rfl rfl rfl ?_
      refine og_skip rfl rfl rfl ?_
      refine og_v (ov_pick rfl rfl rfl rfl) rfl rfl rfl ?_
      refine og_v (ov_move rfl rfl) rfl rfl rfl ?_
      refine og_skip rfl rfl rfl ?_
      refine og_skip rfl rfl rfl ?_
      refine og_skip rfl rfl rfl ?_
      refine og_v (ov_pick rfl rfl rfl rfl) rfl rfl rfl ?_
      refine og_v (ov_move rfl rfl) rfl rfl rfl ?_
      refine og_skip rfl rfl rfl ?_
      refine og_skip rfl rfl rfl ?_
      refine og_skip rfl rfl rfl ?_
      refine og_skip rfl rfl rfl ?_
      refine og_v (ov_pick rfl rfl rfl rfl) rfl rfl rfl ?_
      refine og_v (ov_move rfl rfl) rfl rfl rfl ?_
      refine og_skip rfl rfl rfl ?_
      refine og_skip rfl rfl rfl ?_
      refine og_skip rfl rfl rfl ?_
      refine og_skip rfl rfl rfl ?_
      refine og_v (ov_pick rfl rfl rfl rfl) rfl rfl rfl ?_
      refine og_v (ov_assign rfl rfl) rfl rfl rfl ?_
      refine oj_nil ?_
      exact xj_pass (EnvLe.cons (by first | (simp [look, h2]; done) | (simp [look, h2]; omega) | (simp [look, h2]; intros; omega)) (EnvLe.nil _)) (fun _ h => h)
  · refine xj_then ?_
    refine cj_ret ?_
    refine xj_ret (vs := [(.bool ((((((decide (1 ≤ c.session)) && (decide (c.session ≤ 1073741824))) && (decide (1 ≤ c.seq))) && (decide (c.seq ≤ 1073741824))) && (decide (1 ≤ ((ba c.name).size : Int)))) && (decide (((ba c.name).size : Int) ≤ 64))))]) () rfl (by simp only [oneOf, fitM, ba_size, Bool.and_assoc]) ?_
    exact sat_sub [1] [0] (by decide +kernel) rfl rfl

set_option maxRecDepth 100000 in
set_option maxHeartbeats 8000000 in
theorem clo_asks (b : Nat) (ss : Int) (y : Wt) : Spec Try.prog 197 [(.agg #[(.int .i64 y.session), (.int .i64 y.seq), (.bool y.reader)]), (.pointer (some ⟨b, 0, none⟩))] [(pts b (.cells #[(.int .i64 ss)] 3 (0, 0)))] (fun x : Unit => .bool (y.session == ss)) (fun x : Unit => [(pts b (.cells #[(.int .i64 ss)] 3 (0, 0)))]) := by
  refine spec_of (fn := Try.f197) Try.func197 rfl rfl rfl fun F s => ?_
  show CJ _ _ _ _ _ [(0, (.agg #[(.int .i64 y.session), (.int .i64 y.seq), (.bool y.reader)])), (1, (.pointer (some ⟨b, 0, none⟩)))] [(pts b (.cells #[(.int .i64 ss)] 3 (0, 0))), F]
  refine cj_seq ?_
  refine cj_region ?_
  refine oj_e (oe_box rfl rfl) rfl rfl rfl (fun b1 => ?_)
  refine oj_eq (e' := [(2, (.pointer (some ⟨b1, 0, none⟩))), (0, (.agg #[(.int .i64 y.session), (.int .i64 y.seq), (.bool y.reader)])), (1, (.pointer (some ⟨b, 0, none⟩)))]) (l' := [(pts b1 (.cells #[(.int .i64 y.session), (.int .i64 y.seq), (.bool y.reader)] 197 (0, 0))), (pts b (.cells #[(.int .i64 ss)] 3 (0, 0))), F]) rfl rfl ?_
  refine oj_v (ov_assign rfl rfl) rfl rfl rfl ?_
  refine oj_nil ?_
  refine xj_then ?_
  refine cj_seq ?_
  refine cj_region ?_
  refine oj_v (ov_fieldAddr rfl rfl T_f197_0) rfl rfl rfl ?_
  refine oj_v (ov_load1 (v := (.int .i64 y.session)) rfl rfl T_o3 (rd_pts (i := 0) rfl rfl)) rfl rfl rfl ?_
  refine oj_v (ov_load1 (v := (.int .i64 ss)) rfl rfl T_o3 (rd_pts (i := 1) rfl rfl)) rfl rfl rfl ?_
  refine oj_v (ov_eql rfl rfl rfl) rfl rfl rfl ?_
  refine oj_v (ov_assign rfl rfl) rfl rfl rfl ?_
  refine oj_nil ?_
  refine xj_then ?_
  refine cj_weak (e' := [(3, (.bool (y.session == ss)))]) (EnvLe.cons rfl (EnvLe.nil _)) (fun _ h => h) ?_
  refine cj_ret ?_
  refine xj_ret (vs := [(.bool (y.session == ss))]) () rfl rfl ?_
  exact sat_sub [1, 2] [0] (by decide +kernel) rfl rfl

set_option maxRecDepth 100000 in
set_option maxHeartbeats 8000000 in
theorem lk_asks (p : Nat) (ss : Int) (lx : Lk) (hx : lx.held.length + lx.queue.length ≤ 1073741824) : Spec Try.prog 123 [(.pointer (some ⟨p, 0, none⟩)), (.int .i64 ss)] [(LockR lx p)] (fun x : Unit => .bool (asksX lx ss)) (fun x : Unit => [(LockR lx p)]) := by
  refine spec_of (fn := Try.f123) Try.func123 rfl rfl rfl fun F s => ?_
  show CJ _ _ _ _ _ [(0, (.pointer (some ⟨p, 0, none⟩))), (1, (.int .i64 ss))] [(LockR lx p), F]
  refine cj_seq ?_
  refine cj_out (sat_open 0 rfl) (fun x1 => ?_)
  obtain ⟨a, cc, d, k⟩ := x1
  refine cj_eq (e' := [(0, (.pointer (some ⟨p, 0, none⟩))), (1, (.int .i64 ss))]) (l' := [(pts p (.cells #[(.slice a lx.held.length cc), (.bool lx.writer), (.slice d lx.queue.length k)] 202 (0, 0))), (sl 3 1 a lx.held.length cc (lx.held.flatMap ei)), (sl 197 3 d lx.queue.length k (lx.queue.flatMap encW)), F]) rfl rfl ?_
  refine cj_region ?_
  refine oj_e (oe_box rfl rfl) rfl rfl rfl (fun b2 => ?_)
  refine oj_eq (e' := [(3, (.pointer (some ⟨b2, 0, none⟩))), (0, (.pointer (some ⟨p, 0, none⟩))), (1, (.int .i64 ss))]) (l' := [(pts b2 (.cells #[(.int .i64 ss)] 3 (0, 0))), (pts p (.cells #[(.slice a lx.held.length cc), (.bool lx.writer), (.slice d lx.queue.length k)] 202 (0, 0))), (sl 3 1 a lx.held.length cc (lx.held.flatMap ei)), (sl 197 3 d lx.queue.length k (lx.queue.flatMap encW)), F]) rfl rfl ?_
  refine oj_v (ov_assign rfl rfl) rfl rfl rfl ?_
  refine oj_nil ?_
  refine xj_then ?_
  refine cj_seq ?_
  refine cj_pass (e' := [(4, (.bool ((lx.held.any (fun y => ss == y)) || (lx.queue.any (fun w => w.session == ss)))))]) (l' := [(pts b2 (.cells #[(.int .i64 ss)] 3 (0, 0))), (pts p (.cells #[(.slice a lx.held.length cc), (.bool lx.writer), (.slice d lx.queue.length k)] 202 (0, 0))), (sl 3 1 a lx.held.length cc (lx.held.flatMap ei)), (sl 197 3 d lx.queue.length k (lx.queue.flatMap encW)), F]) ?_ ?_
  · refine cj_sched [(pts b2 (.cells #[(.int .i64 ss)] 3 (0, 0))), (pts p (.cells #[(.slice a lx.held.length cc), (.bool lx.writer), (.slice d lx.queue.length k)] 202 (0, 0)))] [] [(0, true), (1, true), (2, true), (3, true), (4, false), (5, false), (6, false), (7, true), (8, true), (9, true), (10, true), (11, false), (12, false), (13, false), (14, false)] T_mixed (by decide +kernel) rfl ?_
    refine dj_eq (e' := [(4, (.bool false)), (3, (.pointer (some ⟨b2, 0, none⟩))), (0, (.pointer (some ⟨p, 0, none⟩))), (1, (.int .i64 ss))]) (l' := [(pts b2 (.cells #[(.int .i64 ss)] 3 (0, 0))), (pts p (.cells #[(.slice a lx.held.length cc), (.bool lx.writer), (.slice d lx.queue.length k)] 202 (0, 0))), (sl 3 1 a lx.held.length cc (lx.held.flatMap ei)), (sl 197 3 d lx.queue.length k (lx.queue.flatMap encW)), F]) rfl rfl ?_
    refine dj_v np_pass (ov_move rfl rfl) rfl rfl rfl (sat_sub [0, 1] [2, 3, 4] (by decide +kernel) rfl rfl) ?_
    refine dj_v np_pass (ov_nilCheck rfl rfl) rfl rfl rfl (sat_sub [0, 1] [2, 3, 4] (by decide +kernel) rfl rfl) ?_
    refine dj_v np_pass (ov_fieldAddr rfl rfl T_f202_0) rfl rfl rfl (sat_sub [0, 1] [2, 3, 4] (by decide +kernel) rfl rfl) ?_
    refine dj_v np_pass (ov_load1 (v := (.slice a lx.held.length cc)) rfl rfl T_o72 (rd_pts (i := 1) rfl rfl)) rfl rfl rfl (sat_sub [0, 1] [2, 3, 4] (by decide +kernel) rfl rfl) ?_
    refine dj_e (oe_of_v (ov_load1 (v := (.int .i64 ss)) rfl rfl T_o3 (rd_pts (i := 0) rfl rfl))) rfl rfl rfl (.inr (fun _ => sat_sub [0, 1] [2, 3, 4] (by decide +kernel) rfl rfl)) (fun _ => ?_)
    refine dj_e (oe_call rfl rfl rfl Try.func124 rfl rfl (rest := [(pts b2 (.cells #[(.int .i64 ss)] 3 (0, 0))), (pts p (.cells #[(.slice a lx.held.length cc), (.bool lx.writer), (.slice d lx.queue.length k)] 202 (0, 0))), (sl 197 3 d lx.queue.length k (lx.queue.flatMap encW)), F]) (lib_contains_int a cc lx.held ss (by omega)) (js := [2, 0, 1, 3, 4]) ⟨by decide +kernel, rfl, rfl⟩) rfl rfl rfl (.inr (fun _ => sat_sub [1, 2] [0, 3, 4] (by decide +kernel) rfl rfl)) (fun _ => ?_)
    refine dj_eq (e' := [(10, (.bool (lx.held.any (fun y => ss == y)))), (9, (.int .i64 ss)), (8, (.slice a lx.held.length cc)), (7, (.pointer (some ⟨p, 0, none⟩))), (6, (.pointer (some ⟨p, 0, none⟩))), (5, (.pointer (some ⟨p, 0, none⟩))), (4, (.bool false)), (3, (.pointer (some ⟨b2, 0, none⟩))), (0, (.pointer (some ⟨p, 0, none⟩))), (1, (.int .i64 ss))]) (l' := [(sl 3 1 a lx.held.length cc (lx.held.flatMap ei)), (pts b2 (.cells #[(.int .i64 ss)] 3 (0, 0))), (pts p (.cells #[(.slice a lx.held.length cc), (.bool lx.writer), (.slice d lx.queue.length k)] 202 (0, 0))), (sl 197 3 d lx.queue.length k (lx.queue.flatMap encW)), F]) rfl rfl ?_
    refine dj_e (oe_of_v (ov_move rfl rfl)) rfl rfl rfl (.inr (fun _ => sat_sub [1, 2] [0, 3, 4] (by decide +kernel) rfl rfl)) (fun _ => ?_)
    refine dj_case (fun h3 => ?_) (fun h3 => ?_)
    · have c4 := h3
      refine dj_skip np_pass rfl rfl rfl (sat_sub [1, 2] [0, 3, 4] (by decide +kernel) rfl rfl) ?_
      refine dj_skip np_pass rfl rfl rfl (sat_sub [1, 2] [0, 3, 4] (by decide +kernel) rfl rfl) ?_
      refine dj_skip np_pass rfl rfl rfl (sat_sub [1, 2] [0, 3, 4] (by decide +kernel) rfl rfl) ?_
      refine dj_skip np_pass rfl rfl rfl (sat_sub [1, 2] [0, 3, 4] (by decide +kernel) rfl rfl) ?_
      refine dj_skipE rfl rfl rfl (sat_sub [1, 2] [0, 3, 4] (by decide +kernel) rfl rfl) ?_
      refine dj_skipE rfl rfl rfl (sat_sub [1, 2] [0, 3, 4] (by decide +kernel) rfl rfl) ?_
      refine dj_e (oe_of_v (ov_pick rfl rfl rfl rfl)) rfl rfl rfl (.inr (fun _ => sat_sub [1, 2] [0, 3, 4] (by decide +kernel) rfl rfl)) (fun _ => ?_)
      refine dj_e (oe_of_v (ov_assign rfl rfl)) rfl rfl rfl (.inr (fun _ => sat_sub [1, 2] [0, 3, 4] (by decide +kernel) rfl rfl)) (fun _ => ?_)
      refine dj_nil ?_
      exact xj_pass (EnvLe.cons (by first | (simp [look, h3]; done) | (simp [look, h3]; omega) | (simp [look, h3]; intros; omega)) (EnvLe.nil _)) (sat_js [1, 2, 0, 3, 4] (by decide +kernel) rfl rfl)
    · have c5 := h3
      refine dj_v np_pass (ov_move rfl rfl) rfl rfl rfl (sat_sub [1, 2] [0, 3, 4] (by decide +kernel) rfl rfl) ?_
      refine dj_v np_pass (ov_nilCheck rfl rfl) rfl rfl rfl (sat_sub [1, 2] [0, 3, 4] (by decide +kernel) rfl rfl) ?_
      refine dj_v np_pass (ov_fieldAddr rfl rfl T_f202_2) rfl rfl rfl (sat_sub [1, 2] [0, 3, 4] (by decide +kernel) rfl rfl) ?_
      refine dj_v np_pass (ov_load1 (v := (.slice d lx.queue.length k)) rfl rfl T_o200 (rd_pts (i := 1) rfl rfl)) rfl rfl rfl (sat_sub [1, 2] [0, 3, 4] (by decide +kernel) rfl rfl) ?_
      refine dj_e (oe_of_v (ov_makeFunc rfl rfl rfl)) rfl rfl rfl (.inr (fun _ => sat_sub [1, 2] [0, 3, 4] (by decide +kernel) rfl rfl)) (fun _ => ?_)
      refine dj_e (oe_call rfl rfl rfl Try.func196 rfl rfl (rest := [(sl 3 1 a lx.held.length cc (lx.held.flatMap ei)), (pts p (.cells #[(.slice a lx.held.length cc), (.bool lx.writer), (.slice d lx.queue.length k)] 202 (0, 0))), F]) (lib_containsFunc_wt 197 Try.f197 (.pointer (some ⟨b2, 0, none⟩)) (pts b2 (.cells #[(.int .i64 ss)] 3 (0, 0))) (fun w => w.session == ss) Try.func197 rfl rfl (fun x => clo_asks b2 ss x) d k lx.queue (by omega)) (js := [3, 1, 0, 2, 4]) ⟨by decide +kernel, rfl, rfl⟩) rfl rfl rfl (.inr (fun _ => sat_sub [1, 3] [0, 2, 4] (by decide +kernel) rfl rfl)) (fun _ => ?_)
      refine dj_eq (e' := [(17, (.bool (lx.queue.any (fun w => w.session == ss)))), (16, (.func (.func 197) #[] #[(.pointer (some ⟨b2, 0, none⟩))])), (15, (.slice d lx.queue.length k)), (14, (.pointer (some ⟨p, 2, none⟩))), (13, (.pointer (some ⟨p, 0, none⟩))), (12, (.pointer (some ⟨p, 0, none⟩))), (11, (.bool false)), (10, (.bool (lx.held.any (fun y => ss == y)))), (9, (.int .i64 ss)), (8, (.slice a lx.held.length cc)), (7, (.pointer (some ⟨p, 0, none⟩))), (6, (.pointer (some ⟨p, 0, none⟩))), (5, (.pointer (some ⟨p, 0, none⟩))), (4, (.bool false)), (3, (.pointer (some ⟨b2, 0, none⟩))), (0, (.pointer (some ⟨p, 0, none⟩))), (1, (.int .i64 ss))]) (l' := [(sl 197 3 d lx.queue.length k (lx.queue.flatMap encW)), (pts b2 (.cells #[(.int .i64 ss)] 3 (0, 0))), (sl 3 1 a lx.held.length cc (lx.held.flatMap ei)), (pts p (.cells #[(.slice a lx.held.length cc), (.bool lx.writer), (.slice d lx.queue.length k)] 202 (0, 0))), F]) rfl rfl ?_
      refine dj_e (oe_of_v (ov_pick rfl rfl rfl rfl)) rfl rfl rfl (.inr (fun _ => sat_sub [1, 3] [0, 2, 4] (by decide +kernel) rfl rfl)) (fun _ => ?_)
      refine dj_e (oe_of_v (ov_assign rfl rfl)) rfl rfl rfl (.inr (fun _ => sat_sub [1, 3] [0, 2, 4] (by decide +kernel) rfl rfl)) (fun _ => ?_)
      refine dj_nil ?_
      exact xj_pass (EnvLe.cons (by first | (simp [look, h3]; done) | (simp [look, h3]; omega) | (simp [look, h3]; intros; omega)) (EnvLe.nil _)) (sat_js [1, 3, 2, 0, 4] (by decide +kernel) rfl rfl)
  · refine xj_then ?_
    refine cj_ret ?_
    refine xj_ret (vs := [(.bool ((lx.held.any (fun y => ss == y)) || (lx.queue.any (fun w => w.session == ss))))]) () rfl (by simp [oneOf, asksX]) ?_
    exact fun h hs => (fun h hs => ex_close (l := [F]) (h := h) (a, cc, d, k) hs) h (sat_sub (l' := [(pts p (.cells #[(.slice a lx.held.length cc), (.bool lx.writer), (.slice d lx.queue.length k)] 202 (0, 0))), (sl 3 1 a lx.held.length cc (lx.held.flatMap ei)), (sl 197 3 d lx.queue.length k (lx.queue.flatMap encW)), F]) [1, 2, 3, 4] [0] (by decide +kernel) rfl rfl h hs)

set_option maxRecDepth 100000 in
set_option maxHeartbeats 8000000 in
theorem lk_grant (b p mb tok : Nat) (lx : Lk) (w : Wt) (hs : lx.held.Pairwise (· ≤ ·)) (hl : lx.held.length + lx.queue.length ≤ 1073741824) (ht : tok ≤ 18446744073709551615) : Spec Try.prog 122 [(.pointer (some ⟨b, 0, none⟩)), (.pointer (some ⟨p, 0, none⟩)), (.agg #[(.int .i64 w.session), (.int .i64 w.seq), (.bool w.reader)])] [(pts b (.cells #[(.map (some mb)), (.int .u64 (tok : Int))] 195 (0, 0))), (LockR lx p)] (fun x : Unit => (.agg #[(.int .i64 ((grantR tok w).session)), (.int .i64 ((grantR tok w).seq)), (.int .i64 ((grantR tok w).err)), (.int .u64 ((grantR tok w).token : Int)), (.int .i64 ((grantR tok w).n))])) (fun x : Unit => [(pts b (.cells #[(.map (some mb)), (.int .u64 (grantT tok w : Int))] 195 (0, 0))), (LockR (grantX tok lx w) p)]) := by
  refine spec_of (fn := Try.f122) Try.func122 rfl rfl rfl fun F s => ?_
  show CJ _ _ _ _ _ [(0, (.pointer (some ⟨b, 0, none⟩))), (1, (.pointer (some ⟨p, 0, none⟩))), (2, (.agg #[(.int .i64 w.session), (.int .i64 w.seq), (.bool w.reader)]))] [(pts b (.cells #[(.map (some mb)), (.int .u64 (tok : Int))] 195 (0, 0))), (LockR lx p), F]
  refine cj_seq ?_
  refine cj_out (sat_open 1 rfl) (fun x1 => ?_)
  obtain ⟨a, cc, d, k⟩ := x1
  refine cj_eq (e' := [(0, (.pointer (some ⟨b, 0, none⟩))), (1, (.pointer (some ⟨p, 0, none⟩))), (2, (.agg #[(.int .i64 w.session), (.int .i64 w.seq), (.bool w.reader)]))]) (l' := [(pts p (.cells #[(.slice a lx.held.length cc), (.bool lx.writer), (.slice d lx.queue.length k)] 202 (0, 0))), (sl 3 1 a lx.held.length cc (lx.held.flatMap ei)), (sl 197 3 d lx.queue.length k (lx.queue.flatMap encW)), (pts b (.cells #[(.map (some mb)), (.int .u64 (tok : Int))] 195 (0, 0))), F]) rfl rfl ?_
  refine cj_region ?_
  refine oj_e (oe_box rfl rfl) rfl rfl rfl (fun b2 => ?_)
  refine oj_eq (e' := [(5, (.pointer (some ⟨b2, 0, none⟩))), (0, (.pointer (some ⟨b, 0, none⟩))), (1, (.pointer (some ⟨p, 0, none⟩))), (2, (.agg #[(.int .i64 w.session), (.int .i64 w.seq), (.bool w.reader)]))]) (l' := [(pts b2 (.cells #[(.int .i64 w.session), (.int .i64 w.seq), (.bool w.reader)] 197 (0, 0))), (pts p (.cells #[(.slice a lx.held.length cc), (.bool lx.writer), (.slice d lx.queue.length k)] 202 (0, 0))), (sl 3 1 a lx.held.length cc (lx.held.flatMap ei)), (sl 197 3 d lx.queue.length k (lx.queue.flatMap encW)), (pts b (.cells #[(.map (some mb)), (.int .u64 (tok : Int))] 195 (0, 0))), F]) rfl rfl ?_
  refine oj_e (oe_alloc rfl T_z56) rfl rfl rfl (fun b3 => ?_)
  refine oj_eq (e' := [(6, (.pointer (some ⟨b3, 0, none⟩))), (5, (.pointer (some ⟨b2, 0, none⟩))), (0, (.pointer (some ⟨b, 0, none⟩))), (1, (.pointer (some ⟨p, 0, none⟩))), (2, (.agg #[(.int .i64 w.session), (.int .i64 w.seq), (.bool w.reader)]))]) (l' := [(pts b3 (.cells #[(.int .i64 0), (.int .i64 0), (.int .i64 0), (.int .u64 0), (.int .i64 0)] 56 (0, 0))), (pts b2 (.cells #[(.int .i64 w.session), (.int .i64 w.seq), (.bool w.reader)] 197 (0, 0))), (pts p (.cells #[(.slice a lx.held.length cc), (.bool lx.writer), (.slice d lx.queue.length k)] 202 (0, 0))), (sl 3 1 a lx.held.length cc (lx.held.flatMap ei)), (sl 197 3 d lx.queue.length k (lx.queue.flatMap encW)), (pts b (.cells #[(.map (some mb)), (.int .u64 (tok : Int))] 195 (0, 0))), F]) rfl rfl ?_
  refine oj_nil ?_
  refine xj_then ?_
  refine cj_seq ?_
  refine cj_region ?_
  refine oj_v (ov_fieldAddr rfl rfl T_f197_0) rfl rfl rfl ?_
  refine oj_v (ov_load1 (v := (.int .i64 w.session)) rfl rfl T_o3 (rd_pts (i := 1) rfl rfl)) rfl rfl rfl ?_
  refine oj_v (ov_fieldAddr rfl rfl T_f197_1) rfl rfl rfl ?_
  refine oj_v (ov_load1 (v := (.int .i64 w.seq)) rfl rfl T_o3 (rd_pts (i := 1) rfl rfl)) rfl rfl rfl ?_
  refine oj_v (ov_build (cells := #[(.int .i64 w.session), (.int .i64 w.seq), (.int .i64 0), (.int .u64 0), (.int .i64 0)]) rfl T_z56 T_p56 rfl rfl) rfl rfl rfl ?_
  refine oj_e (oe_alloc rfl T_z56) rfl rfl rfl (fun b4 => ?_)
  refine oj_eq (e' := [(7, (.pointer (some ⟨b4, 0, none⟩))), (14, (.agg #[(.int .i64 w.session), (.int .i64 w.seq), (.int .i64 0), (.int .u64 0), (.int .i64 0)])), (13, (.int .i64 w.seq)), (12, (.pointer (some ⟨b2, 1, none⟩))), (11, (.int .i64 w.session)), (10, (.pointer (some ⟨b2, 0, none⟩))), (6, (.pointer (some ⟨b3, 0, none⟩))), (5, (.pointer (some ⟨b2, 0, none⟩))), (0, (.pointer (some ⟨b, 0, none⟩))), (1, (.pointer (some ⟨p, 0, none⟩))), (2, (.agg #[(.int .i64 w.session), (.int .i64 w.seq), (.bool w.reader)]))]) (l' := [(pts b4 (.cells #[(.int .i64 0), (.int .i64 0), (.int .i64 0), (.int .u64 0), (.int .i64 0)] 56 (0, 0))), (pts b3 (.cells #[(.int .i64 0), (.int .i64 0), (.int .i64 0), (.int .u64 0), (.int .i64 0)] 56 (0, 0))), (pts b2 (.cells #[(.int .i64 w.session), (.int .i64 w.seq), (.bool w.reader)] 197 (0, 0))), (pts p (.cells #[(.slice a lx.held.length cc), (.bool lx.writer), (.slice d lx.queue.length k)] 202 (0, 0))), (sl 3 1 a lx.held.length cc (lx.held.flatMap ei)), (sl 197 3 d lx.queue.length k (lx.queue.flatMap encW)), (pts b (.cells #[(.map (some mb)), (.int .u64 (tok : Int))] 195 (0, 0))), F]) rfl rfl ?_
  refine oj_e0 (oe_storen (i := 0) rfl rfl rfl T_a56 rfl rfl (by simp [Value.oneCell'])) rfl rfl (fun _ => ?_)
  refine oj_eq (e' := [(7, (.pointer (some ⟨b4, 0, none⟩))), (14, (.agg #[(.int .i64 w.session), (.int .i64 w.seq), (.int .i64 0), (.int .u64 0), (.int .i64 0)])), (13, (.int .i64 w.seq)), (12, (.pointer (some ⟨b2, 1, none⟩))), (11, (.int .i64 w.session)), (10, (.pointer (some ⟨b2, 0, none⟩))), (6, (.pointer (some ⟨b3, 0, none⟩))), (5, (.pointer (some ⟨b2, 0, none⟩))), (0, (.pointer (some ⟨b, 0, none⟩))), (1, (.pointer (some ⟨p, 0, none⟩))), (2, (.agg #[(.int .i64 w.session), (.int .i64 w.seq), (.bool w.reader)]))]) (l' := [(pts b4 (.cells #[(.int .i64 w.session), (.int .i64 w.seq), (.int .i64 0), (.int .u64 0), (.int .i64 0)] 56 (0, 0))), (pts b3 (.cells #[(.int .i64 0), (.int .i64 0), (.int .i64 0), (.int .u64 0), (.int .i64 0)] 56 (0, 0))), (pts b2 (.cells #[(.int .i64 w.session), (.int .i64 w.seq), (.bool w.reader)] 197 (0, 0))), (pts p (.cells #[(.slice a lx.held.length cc), (.bool lx.writer), (.slice d lx.queue.length k)] 202 (0, 0))), (sl 3 1 a lx.held.length cc (lx.held.flatMap ei)), (sl 197 3 d lx.queue.length k (lx.queue.flatMap encW)), (pts b (.cells #[(.map (some mb)), (.int .u64 (tok : Int))] 195 (0, 0))), F]) rfl rfl ?_
  refine oj_nil ?_
  refine xj_then ?_
  refine cj_weak (e' := [(7, (.pointer (some ⟨b4, 0, none⟩))), (6, (.pointer (some ⟨b3, 0, none⟩))), (5, (.pointer (some ⟨b2, 0, none⟩))), (0, (.pointer (some ⟨b, 0, none⟩))), (1, (.pointer (some ⟨p, 0, none⟩)))]) (EnvLe.cons rfl (EnvLe.cons rfl (EnvLe.cons rfl (EnvLe.cons rfl (EnvLe.cons rfl (EnvLe.nil _)))))) (fun _ h => h) ?_
  refine cj_seq ?_
  refine cj_seq ?_
  refine cj_region ?_
  refine oj_v (ov_fieldAddr rfl rfl T_f197_2) rfl rfl rfl ?_
  refine oj_v (ov_load1 (v := (.bool w.reader)) rfl rfl T_o4 (rd_pts (i := 2) rfl rfl)) rfl rfl rfl ?_
  refine oj_v (ov_not rfl rfl) rfl rfl rfl ?_
  refine oj_nil ?_
  refine xj_then ?_
  refine cj_cond (b := !w.reader) rfl (fun h5 => ?_) (fun h5 => ?_)
  · have h6 : w.reader = false := by simpa using h5
    have c7 := h6
    refine cj_seq ?_
    refine cj_seq ?_
    refine cj_region ?_
    refine oj_v (ov_move rfl rfl) rfl rfl rfl ?_
    refine oj_v (ov_nilCheck rfl rfl) rfl rfl rfl ?_
    refine oj_v (ov_fieldAddr rfl rfl T_f195_1) rfl rfl rfl ?_
    refine oj_v (ov_load1 (v := (.int .u64 (tok : Int))) rfl rfl T_o54 (rd_pts (i := 6) rfl rfl)) rfl rfl rfl ?_
    refine oj_v (ov_eql rfl rfl rfl) rfl rfl rfl ?_
    refine oj_nil ?_
    refine xj_then ?_
    refine cj_weak (e' := [(22, (.bool ((tok : Int) == 18446744073709551615))), (7, (.pointer (some ⟨b4, 0, none⟩))), (6, (.pointer (some ⟨b3, 0, none⟩))), (5, (.pointer (some ⟨b2, 0, none⟩))), (0, (.pointer (some ⟨b, 0, none⟩))), (1, (.pointer (some ⟨p, 0, none⟩)))]) (EnvLe.cons rfl (EnvLe.cons rfl (EnvLe.cons rfl (EnvLe.cons rfl (EnvLe.cons rfl (EnvLe.cons rfl (EnvLe.nil _))))))) (fun _ h => h) ?_
    refine cj_cond (b := (tok : Int) == 18446744073709551615) rfl (fun h8 => ?_) (fun h8 => ?_)
    · have c9 : (tok : Int) = 18446744073709551615 := by simpa using h8
      have c10 : tok = 18446744073709551615 := by omega
      refine cj_seq ?_
      refine cj_region ?_
      refine oj_v (ov_fieldAddr rfl rfl T_f56_2) rfl rfl rfl ?_
      refine oj_e0 (oe_store1 (i := 0) rfl rfl rfl T_o53 rfl rfl rfl) rfl rfl (fun _ => ?_)
      refine oj_eq (e' := [(23, (.pointer (some ⟨b4, 2, none⟩))), (22, (.bool ((tok : Int) == 18446744073709551615))), (7, (.pointer (some ⟨b4, 0, none⟩))), (6, (.pointer (some ⟨b3, 0, none⟩))), (5, (.pointer (some ⟨b2, 0, none⟩))), (0, (.pointer (some ⟨b, 0, none⟩))), (1, (.pointer (some ⟨p, 0, none⟩)))]) (l' := [(pts b4 (.cells #[(.int .i64 w.session), (.int .i64 w.seq), (.int .i64 16), (.int .u64 0), (.int .i64 0)] 56 (0, 0))), (pts b3 (.cells #[(.int .i64 0), (.int .i64 0), (.int .i64 0), (.int .u64 0), (.int .i64 0)] 56 (0, 0))), (pts b2 (.cells #[(.int .i64 w.session), (.int .i64 w.seq), (.bool w.reader)] 197 (0, 0))), (pts p (.cells #[(.slice a lx.held.length cc), (.bool lx.writer), (.slice d lx.queue.length k)] 202 (0, 0))), (sl 3 1 a lx.held.length cc (lx.held.flatMap ei)), (sl 197 3 d lx.queue.length k (lx.queue.flatMap encW)), (pts b (.cells #[(.map (some mb)), (.int .u64 (tok : Int))] 195 (0, 0))), F]) rfl rfl ?_
      refine oj_nil ?_
      refine xj_then ?_
      refine cj_seq ?_
      refine cj_region ?_
      refine oj_v (ov_loadn (cs := [(.int .i64 w.session), (.int .i64 w.seq), (.int .i64 16), (.int .u64 0), (.int .i64 0)]) rfl rfl T_a56 (rds_pts (i := 0) rfl rfl)) rfl rfl rfl ?_
      refine oj_e0 (oe_storen (i := 1) rfl rfl rfl T_a56 rfl rfl (by simp [Value.oneCell'])) rfl rfl (fun _ => ?_)
      refine oj_eq (e' := [(24, (.agg #[(.int .i64 w.session), (.int .i64 w.seq), (.int .i64 16), (.int .u64 0), (.int .i64 0)])), (23, (.pointer (some ⟨b4, 2, none⟩))), (22, (.bool ((tok : Int) == 18446744073709551615))), (7, (.pointer (some ⟨b4, 0, none⟩))), (6, (.pointer (some ⟨b3, 0, none⟩))), (5, (.pointer (some ⟨b2, 0, none⟩))), (0, (.pointer (some ⟨b, 0, none⟩))), (1, (.pointer (some ⟨p, 0, none⟩)))]) (l' := [(pts b4 (.cells #[(.int .i64 w.session), (.int .i64 w.seq), (.int .i64 16), (.int .u64 0), (.int .i64 0)] 56 (0, 0))), (pts b3 (.cells #[(.int .i64 w.session), (.int .i64 w.seq), (.int .i64 16), (.int .u64 0), (.int .i64 0)] 56 (0, 0))), (pts b2 (.cells #[(.int .i64 w.session), (.int .i64 w.seq), (.bool w.reader)] 197 (0, 0))), (pts p (.cells #[(.slice a lx.held.length cc), (.bool lx.writer), (.slice d lx.queue.length k)] 202 (0, 0))), (sl 3 1 a lx.held.length cc (lx.held.flatMap ei)), (sl 197 3 d lx.queue.length k (lx.queue.flatMap encW)), (pts b (.cells #[(.map (some mb)), (.int .u64 (tok : Int))] 195 (0, 0))), F]) rfl rfl ?_
      refine oj_nil ?_
      refine xj_then ?_
      refine cj_weak (e' := [(7, (.pointer (some ⟨b4, 0, none⟩))), (6, (.pointer (some ⟨b3, 0, none⟩))), (5, (.pointer (some ⟨b2, 0, none⟩))), (0, (.pointer (some ⟨b, 0, none⟩))), (1, (.pointer (some ⟨p, 0, none⟩)))]) (EnvLe.cons rfl (EnvLe.cons rfl (EnvLe.cons rfl (EnvLe.cons rfl (EnvLe.cons rfl (EnvLe.nil _)))))) (fun _ h => h) ?_
      refine cj_ret ?_
      refine xj_then_other (by simp) ?_
      refine xj_then_other (by simp) ?_
      have e1 : grantR tok w = ⟨w.session, w.seq, 16, 0, 0⟩ := by simp [grantR, topTok, c7, h6, c7, c9, c10]
      have e2 : grantT tok w = tok := by simp [grantT, topTok, c7, h6, c7, c9, c10]
      have e3 : grantX tok lx w = lx := by simp [grantX, topTok, c7, h6, c7, c9, c10]
      refine xj_retV (vs := [(.agg #[(.int .i64 w.session), (.int .i64 w.seq), (.int .i64 16), (.int .u64 0), (.int .i64 0)])]) () (.cons (res_cells (cs := [(.int .i64 w.session), (.int .i64 w.seq), (.int .i64 16), (.int .u64 0), (.int .i64 0)]) rfl T_a56 (rds_pts (i := 1) rfl rfl)) .nil) (by rw [e1]; rfl) ?_
      rw [e2, e3]
      exact fun h hs => (fun h hs => Sat.tail_mono (fun _ h1 => ex_close (l := [F]) (a, cc, d, k) h1) hs) h (sat_sub (l' := [(pts b (.cells #[(.map (some mb)), (.int .u64 (tok : Int))] 195 (0, 0))), (pts p (.cells #[(.slice a lx.held.length cc), (.bool lx.writer), (.slice d lx.queue.length k)] 202 (0, 0))), (sl 3 1 a lx.held.length cc (lx.held.flatMap ei)), (sl 197 3 d lx.queue.length k (lx.queue.flatMap encW)), F]) [6, 3, 4, 5, 7] [0, 1, 2] (by decide +kernel) rfl rfl h hs)
    · have c11 : (tok : Int) ≠ 18446744073709551615 := by simpa using h8
      have c12 : tok ≠ 18446744073709551615 := by omega
      refine cj_skip ?_
      refine xj_then ?_
      refine cj_region ?_
      refine oj_v (ov_move rfl rfl) rfl rfl rfl ?_
      refine oj_v (ov_nilCheck rfl rfl) rfl rfl rfl ?_
      refine oj_v (ov_fieldAddr rfl rfl T_f195_1) rfl rfl rfl ?_
      refine oj_v (ov_load1 (v := (.int .u64 (tok : Int))) rfl rfl T_o54 (rd_pts (i := 6) rfl rfl)) rfl rfl rfl ?_
      refine oj_v (ov_addw rfl rfl rfl) rfl rfl rfl ?_
      refine oj_head (v' := (.int .u64 ((tok + 1 : Nat) : Int))) (by rw [wrap_succ (by omega)]) ?_
      refine oj_v (ov_nilCheck rfl rfl) rfl rfl rfl ?_
      refine oj_v (ov_fieldAddr rfl rfl T_f195_1) rfl rfl rfl ?_
      refine oj_e0 (oe_store1 (i := 6) rfl rfl rfl T_o54 rfl rfl rfl) rfl rfl (fun _ => ?_)
      refine oj_eq (e' := [(31, (.pointer (some ⟨b, 1, none⟩))), (30, (.pointer (some ⟨b, 0, none⟩))), (29, (.int .u64 ((tok + 1 : Nat) : Int))), (28, (.int .u64 (tok : Int))), (27, (.pointer (some ⟨b, 1, none⟩))), (26, (.pointer (some ⟨b, 0, none⟩))), (25, (.pointer (some ⟨b, 0, none⟩))), (22, (.bool ((tok : Int) == 18446744073709551615))), (7, (.pointer (some ⟨b4, 0, none⟩))), (6, (.pointer (some ⟨b3, 0, none⟩))), (5, (.pointer (some ⟨b2, 0, none⟩))), (0, (.pointer (some ⟨b, 0, none⟩))), (1, (.pointer (some ⟨p, 0, none⟩)))]) (l' := [(pts b4 (.cells #[(.int .i64 w.session), (.int .i64 w.seq), (.int .i64 0), (.int .u64 0), (.int .i64 0)] 56 (0, 0))), (pts b3 (.cells #[(.int .i64 0), (.int .i64 0), (.int .i64 0), (.int .u64 0), (.int .i64 0)] 56 (0, 0))), (pts b2 (.cells #[(.int .i64 w.session), (.int .i64 w.seq), (.bool w.reader)] 197 (0, 0))), (pts p (.cells #[(.slice a lx.held.length cc), (.bool lx.writer), (.slice d lx.queue.length k)] 202 (0, 0))), (sl 3 1 a lx.held.length cc (lx.held.flatMap ei)), (sl 197 3 d lx.queue.length k (lx.queue.flatMap encW)), (pts b (.cells #[(.map (some mb)), (.int .u64 ((tok + 1 : Nat) : Int))] 195 (0, 0))), F]) rfl rfl ?_
      refine oj_nil ?_
      refine xj_then ?_
      refine cj_weak (e' := [(7, (.pointer (some ⟨b4, 0, none⟩))), (6, (.pointer (some ⟨b3, 0, none⟩))), (5, (.pointer (some ⟨b2, 0, none⟩))), (0, (.pointer (some ⟨b, 0, none⟩))), (1, (.pointer (some ⟨p, 0, none⟩)))]) (EnvLe.cons rfl (EnvLe.cons rfl (EnvLe.cons rfl (EnvLe.cons rfl (EnvLe.cons rfl (EnvLe.nil _)))))) (fun _ h => h) ?_
      refine cj_seq ?_
      refine cj_region ?_
      refine oj_v (ov_move rfl rfl) rfl rfl rfl ?_
      refine oj_v (ov_nilCheck rfl rfl) rfl rfl rfl ?_
      refine oj_v (ov_fieldAddr rfl rfl T_f195_1) rfl rfl rfl ?_
      refine oj_v (ov_load1 (v := (.int .u64 ((tok + 1 : Nat) : Int))) rfl rfl T_o54 (rd_pts (i := 6) rfl rfl)) rfl rfl rfl ?_
      refine oj_v (ov_fieldAddr rfl rfl T_f56_3) rfl rfl rfl ?_
      refine oj_e0 (oe_store1 (i := 0) rfl rfl rfl T_o54 rfl rfl rfl) rfl rfl (fun _ => ?_)
      refine oj_eq (e' := [(36, (.pointer (some ⟨b4, 3, none⟩))), (35, (.int .u64 ((tok + 1 : Nat) : Int))), (34, (.pointer (some ⟨b, 1, none⟩))), (33, (.pointer (some ⟨b, 0, none⟩))), (32, (.pointer (some ⟨b, 0, none⟩))), (7, (.pointer (some ⟨b4, 0, none⟩))), (6, (.pointer (some ⟨b3, 0, none⟩))), (5, (.pointer (some ⟨b2, 0, none⟩))), (0, (.pointer (some ⟨b, 0, none⟩))), (1, (.pointer (some ⟨p, 0, none⟩)))]) (l' := [(pts b4 (.cells #[(.int .i64 w.session), (.int .i64 w.seq), (.int .i64 0), (.int .u64 ((tok + 1 : Nat) : Int)), (.int .i64 0)] 56 (0, 0))), (pts b3 (.cells #[(.int .i64 0), (.int .i64 0), (.int .i64 0), (.int .u64 0), (.int .i64 0)] 56 (0, 0))), (pts b2 (.cells #[(.int .i64 w.session), (.int .i64 w.seq), (.bool w.reader)] 197 (0, 0))), (pts p (.cells #[(.slice a lx.held.length cc), (.bool lx.writer), (.slice d lx.queue.length k)] 202 (0, 0))), (sl 3 1 a lx.held.length cc (lx.held.flatMap ei)), (sl 197 3 d lx.queue.length k (lx.queue.flatMap encW)), (pts b (.cells #[(.map (some mb)), (.int .u64 ((tok + 1 : Nat) : Int))] 195 (0, 0))), F]) rfl rfl ?_
      refine oj_nil ?_
      refine xj_then ?_
      refine cj_weak (e' := [(7, (.pointer (some ⟨b4, 0, none⟩))), (6, (.pointer (some ⟨b3, 0, none⟩))), (5, (.pointer (some ⟨b2, 0, none⟩))), (1, (.pointer (some ⟨p, 0, none⟩)))]) (EnvLe.cons rfl (EnvLe.cons rfl (EnvLe.cons rfl (EnvLe.cons rfl (EnvLe.nil _))))) (fun _ h => h) ?_
      refine cj_seq ?_
      refine cj_sched [(pts b2 (.cells #[(.int .i64 w.session), (.int .i64 w.seq), (.bool w.reader)] 197 (0, 0))), (pts p (.cells #[(.slice a lx.held.length cc), (.bool lx.writer), (.slice d lx.queue.length k)] 202 (0, 0)))] [] [(0, true), (1, true), (2, true), (3, true), (4, false), (5, false), (6, false), (7, false), (8, true), (9, true), (10, false), (11, false)] T_mixed (by decide +kernel) rfl ?_
      refine dj_eq (e' := [(7, (.pointer (some ⟨b4, 0, none⟩))), (6, (.pointer (some ⟨b3, 0, none⟩))), (5, (.pointer (some ⟨b2, 0, none⟩))), (1, (.pointer (some ⟨p, 0, none⟩)))]) (l' := [(pts b4 (.cells #[(.int .i64 w.session), (.int .i64 w.seq), (.int .i64 0), (.int .u64 ((tok + 1 : Nat) : Int)), (.int .i64 0)] 56 (0, 0))), (pts b3 (.cells #[(.int .i64 0), (.int .i64 0), (.int .i64 0), (.int .u64 0), (.int .i64 0)] 56 (0, 0))), (pts b2 (.cells #[(.int .i64 w.session), (.int .i64 w.seq), (.bool w.reader)] 197 (0, 0))), (pts p (.cells #[(.slice a lx.held.length cc), (.bool lx.writer), (.slice d lx.queue.length k)] 202 (0, 0))), (sl 3 1 a lx.held.length cc (lx.held.flatMap ei)), (sl 197 3 d lx.queue.length k (lx.queue.flatMap encW)), (pts b (.cells #[(.map (some mb)), (.int .u64 ((tok + 1 : Nat) : Int))] 195 (0, 0))), F]) rfl rfl ?_
      refine dj_v (np_then np_body) (ov_move rfl rfl) rfl rfl rfl (sat_sub [2, 3] [0, 1, 4, 5, 6, 7] (by decide +kernel) rfl rfl) ?_
      refine dj_v (np_then np_body) (ov_nilCheck rfl rfl) rfl rfl rfl (sat_sub [2, 3] [0, 1, 4, 5, 6, 7] (by decide +kernel) rfl rfl) ?_
      refine dj_v (np_then np_body) (ov_fieldAddr rfl rfl T_f202_0) rfl rfl rfl (sat_sub [2, 3] [0, 1, 4, 5, 6, 7] (by decide +kernel) rfl rfl) ?_
      refine dj_v (np_then np_body) (ov_load1 (v := (.slice a lx.held.length cc)) rfl rfl T_o72 (rd_pts (i := 1) rfl rfl)) rfl rfl rfl (sat_sub [2, 3] [0, 1, 4, 5, 6, 7] (by decide +kernel) rfl rfl) ?_
      refine dj_e (oe_of_v (ov_fieldAddr rfl rfl T_f197_0)) rfl rfl rfl (.inr (fun _ => sat_sub [2, 3] [0, 1, 4, 5, 6, 7] (by decide +kernel) rfl rfl)) (fun _ => ?_)
      refine dj_e (oe_of_v (ov_load1 (v := (.int .i64 w.session)) rfl rfl T_o3 (rd_pts (i := 2) rfl rfl))) rfl rfl rfl (.inr (fun _ => sat_sub [2, 3] [0, 1, 4, 5, 6, 7] (by decide +kernel) rfl rfl)) (fun _ => ?_)
      refine dj_e (oe_call rfl rfl rfl Try.func189 rfl rfl (rest := [(pts b4 (.cells #[(.int .i64 w.session), (.int .i64 w.seq), (.int .i64 0), (.int .u64 ((tok + 1 : Nat) : Int)), (.int .i64 0)] 56 (0, 0))), (pts b3 (.cells #[(.int .i64 0), (.int .i64 0), (.int .i64 0), (.int .u64 0), (.int .i64 0)] 56 (0, 0))), (pts b2 (.cells #[(.int .i64 w.session), (.int .i64 w.seq), (.bool w.reader)] 197 (0, 0))), (pts p (.cells #[(.slice a lx.held.length cc), (.bool lx.writer), (.slice d lx.queue.length k)] 202 (0, 0))), (sl 197 3 d lx.queue.length k (lx.queue.flatMap encW)), (pts b (.cells #[(.map (some mb)), (.int .u64 ((tok + 1 : Nat) : Int))] 195 (0, 0))), F]) (sh_search a cc lx.held w.session (by omega) hs) (js := [4, 0, 1, 2, 3, 5, 6, 7]) ⟨by decide +kernel, rfl, rfl⟩) rfl rfl rfl (.inr (fun _ => sat_sub [3, 4] [0, 1, 2, 5, 6, 7] (by decide +kernel) rfl rfl)) (fun _ => ?_)
      refine dj_eq (e' := [(44, (.tuple #[(.int .i64 ((lx.held.countP (fun y => decide (y < w.session))) : Int)), (.bool (lx.held.contains w.session))])), (43, (.int .i64 w.session)), (42, (.pointer (some ⟨b2, 0, none⟩))), (41, (.slice a lx.held.length cc)), (40, (.pointer (some ⟨p, 0, none⟩))), (39, (.pointer (some ⟨p, 0, none⟩))), (38, (.pointer (some ⟨p, 0, none⟩))), (7, (.pointer (some ⟨b4, 0, none⟩))), (6, (.pointer (some ⟨b3, 0, none⟩))), (5, (.pointer (some ⟨b2, 0, none⟩))), (1, (.pointer (some ⟨p, 0, none⟩)))]) (l' := [(sl 3 1 a lx.held.length cc (lx.held.flatMap ei)), (pts b4 (.cells #[(.int .i64 w.session), (.int .i64 w.seq), (.int .i64 0), (.int .u64 ((tok + 1 : Nat) : Int)), (.int .i64 0)] 56 (0, 0))), (pts b3 (.cells #[(.int .i64 0), (.int .i64 0), (.int .i64 0), (.int .u64 0), (.int .i64 0)] 56 (0, 0))), (pts b2 (.cells #[(.int .i64 w.session), (.int .i64 w.seq), (.bool w.reader)] 197 (0, 0))), (pts p (.cells #[(.slice a lx.held.length cc), (.bool lx.writer), (.slice d lx.queue.length k)] 202 (0, 0))), (sl 197 3 d lx.queue.length k (lx.queue.flatMap encW)), (pts b (.cells #[(.map (some mb)), (.int .u64 ((tok + 1 : Nat) : Int))] 195 (0, 0))), F]) rfl rfl ?_
      refine dj_e (oe_of_v (ov_move rfl rfl)) rfl rfl rfl (.inr (fun _ => sat_sub [3, 4] [0, 1, 2, 5, 6, 7] (by decide +kernel) rfl rfl)) (fun _ => ?_)
      refine dj_v (np_then np_body) (ov_extract rfl rfl rfl) rfl rfl rfl (sat_sub [3, 4] [0, 1, 2, 5, 6, 7] (by decide +kernel) rfl rfl) ?_
      refine dj_v (np_then np_body) (ov_extract rfl rfl rfl) rfl rfl rfl (sat_sub [3, 4] [0, 1, 2, 5, 6, 7] (by decide +kernel) rfl rfl) ?_
      refine dj_e (oe_of_v (ov_assign rfl rfl)) rfl rfl rfl (.inr (fun _ => sat_sub [3, 4] [0, 1, 2, 5, 6, 7] (by decide +kernel) rfl rfl)) (fun _ => ?_)
      refine dj_e (oe_of_v (ov_assign rfl rfl)) rfl rfl rfl (.inr (fun _ => sat_sub [3, 4] [0, 1, 2, 5, 6, 7] (by decide +kernel) rfl rfl)) (fun _ => ?_)
      refine dj_nil ?_
      refine xj_then ?_
      refine cj_weak (e' := [(8, (.int .i64 ((lx.held.countP (fun y => decide (y < w.session))) : Int))), (7, (.pointer (some ⟨b4, 0, none⟩))), (6, (.pointer (some ⟨b3, 0, none⟩))), (5, (.pointer (some ⟨b2, 0, none⟩))), (1, (.pointer (some ⟨p, 0, none⟩)))]) (EnvLe.cons rfl (EnvLe.cons rfl (EnvLe.cons rfl (EnvLe.cons rfl (EnvLe.cons rfl (EnvLe.nil _)))))) (fun _ h => h) ?_
      refine cj_seq ?_
      refine cj_sched [(pts b2 (.cells #[(.int .i64 w.session), (.int .i64 w.seq), (.bool w.reader)] 197 (0, 0))), (pts p (.cells #[(.slice a lx.held.length cc), (.bool lx.writer), (.slice d lx.queue.length k)] 202 (0, 0)))] [12] [(0, true), (1, true), (2, true), (3, true), (4, true), (5, true), (6, false), (7, false), (8, false), (9, false), (10, false), (11, false), (12, false)] T_mixed (by decide +kernel) rfl ?_
      refine dj_eq (e' := [(8, (.int .i64 ((lx.held.countP (fun y => decide (y < w.session))) : Int))), (7, (.pointer (some ⟨b4, 0, none⟩))), (6, (.pointer (some ⟨b3, 0, none⟩))), (5, (.pointer (some ⟨b2, 0, none⟩))), (1, (.pointer (some ⟨p, 0, none⟩)))]) (l' := [(sl 3 1 a lx.held.length cc (lx.held.flatMap ei)), (pts b4 (.cells #[(.int .i64 w.session), (.int .i64 w.seq), (.int .i64 0), (.int .u64 ((tok + 1 : Nat) : Int)), (.int .i64 0)] 56 (0, 0))), (pts b3 (.cells #[(.int .i64 0), (.int .i64 0), (.int .i64 0), (.int .u64 0), (.int .i64 0)] 56 (0, 0))), (pts b2 (.cells #[(.int .i64 w.session), (.int .i64 w.seq), (.bool w.reader)] 197 (0, 0))), (pts p (.cells #[(.slice a lx.held.length cc), (.bool lx.writer), (.slice d lx.queue.length k)] 202 (0, 0))), (sl 197 3 d lx.queue.length k (lx.queue.flatMap encW)), (pts b (.cells #[(.map (some mb)), (.int .u64 ((tok + 1 : Nat) : Int))] 195 (0, 0))), F]) rfl rfl ?_
      refine dj_v (np_then np_body) (ov_move rfl rfl) rfl rfl rfl (sat_sub [3, 4] [0, 1, 2, 5, 6, 7] (by decide +kernel) rfl rfl) ?_
      refine dj_v (np_then np_body) (ov_move rfl rfl) rfl rfl rfl (sat_sub [3, 4] [0, 1, 2, 5, 6, 7] (by decide +kernel) rfl rfl) ?_
      refine dj_v (np_then np_body) (ov_nilCheck rfl rfl) rfl rfl rfl (sat_sub [3, 4] [0, 1, 2, 5, 6, 7] (by decide +kernel) rfl rfl) ?_
      refine dj_v (np_then np_body) (ov_fieldAddr rfl rfl T_f202_0) rfl rfl rfl (sat_sub [3, 4] [0, 1, 2, 5, 6, 7] (by decide +kernel) rfl rfl) ?_
      refine dj_v (np_then np_body) (ov_load1 (v := (.slice a lx.held.length cc)) rfl rfl T_o72 (rd_pts (i := 1) rfl rfl)) rfl rfl rfl (sat_sub [3, 4] [0, 1, 2, 5, 6, 7] (by decide +kernel) rfl rfl) ?_
      refine dj_v (np_then np_body) (ov_move rfl rfl) rfl rfl rfl (sat_sub [3, 4] [0, 1, 2, 5, 6, 7] (by decide +kernel) rfl rfl) ?_
      refine dj_e (oe_of_v (ov_fieldAddr rfl rfl T_f197_0)) rfl rfl rfl (.inr (fun _ => sat_sub [3, 4] [0, 1, 2, 5, 6, 7] (by decide +kernel) rfl rfl)) (fun _ => ?_)
      refine dj_e (oe_of_v (ov_load1 (v := (.int .i64 w.session)) rfl rfl T_o3 (rd_pts (i := 3) rfl rfl))) rfl rfl rfl (.inr (fun _ => sat_sub [3, 4] [0, 1, 2, 5, 6, 7] (by decide +kernel) rfl rfl)) (fun _ => ?_)
      refine dj_e (oe_buildSlice (cells := #[(.int .i64 w.session)]) rfl T_e72 T_z3 rfl rfl rfl rfl) rfl rfl rfl (.inr (fun b13 => sat_sub [4, 5] [0, 1, 2, 3, 6, 7, 8] (by decide +kernel) rfl rfl)) (fun b13 => ?_)
      refine dj_eq (e' := [(55, (.slice (some ⟨b13, 0, none⟩) 1 1)), (54, (.int .i64 w.session)), (53, (.pointer (some ⟨b2, 0, none⟩))), (52, (.int .i64 ((lx.held.countP (fun y => decide (y < w.session))) : Int))), (51, (.slice a lx.held.length cc)), (50, (.pointer (some ⟨p, 0, none⟩))), (49, (.pointer (some ⟨p, 0, none⟩))), (48, (.pointer (some ⟨p, 0, none⟩))), (47, (.pointer (some ⟨p, 0, none⟩))), (8, (.int .i64 ((lx.held.countP (fun y => decide (y < w.session))) : Int))), (7, (.pointer (some ⟨b4, 0, none⟩))), (6, (.pointer (some ⟨b3, 0, none⟩))), (5, (.pointer (some ⟨b2, 0, none⟩))), (1, (.pointer (some ⟨p, 0, none⟩)))]) (l' := [(pts b13 (.cells #[(.int .i64 w.session)] 3 (0, 0))), (sl 3 1 a lx.held.length cc (lx.held.flatMap ei)), (pts b4 (.cells #[(.int .i64 w.session), (.int .i64 w.seq), (.int .i64 0), (.int .u64 ((tok + 1 : Nat) : Int)), (.int .i64 0)] 56 (0, 0))), (pts b3 (.cells #[(.int .i64 0), (.int .i64 0), (.int .i64 0), (.int .u64 0), (.int .i64 0)] 56 (0, 0))), (pts b2 (.cells #[(.int .i64 w.session), (.int .i64 w.seq), (.bool w.reader)] 197 (0, 0))), (pts p (.cells #[(.slice a lx.held.length cc), (.bool lx.writer), (.slice d lx.queue.length k)] 202 (0, 0))), (sl 197 3 d lx.queue.length k (lx.queue.flatMap encW)), (pts b (.cells #[(.map (some mb)), (.int .u64 ((tok + 1 : Nat) : Int))] 195 (0, 0))), F]) rfl rfl ?_
      refine dj_e (oe_call rfl rfl rfl Try.func195 rfl rfl (rest := [(pts b4 (.cells #[(.int .i64 w.session), (.int .i64 w.seq), (.int .i64 0), (.int .u64 ((tok + 1 : Nat) : Int)), (.int .i64 0)] 56 (0, 0))), (pts b3 (.cells #[(.int .i64 0), (.int .i64 0), (.int .i64 0), (.int .u64 0), (.int .i64 0)] 56 (0, 0))), (pts b2 (.cells #[(.int .i64 w.session), (.int .i64 w.seq), (.bool w.reader)] 197 (0, 0))), (pts p (.cells #[(.slice a lx.held.length cc), (.bool lx.writer), (.slice d lx.queue.length k)] 202 (0, 0))), (sl 197 3 d lx.queue.length k (lx.queue.flatMap encW)), (pts b (.cells #[(.map (some mb)), (.int .u64 ((tok + 1 : Nat) : Int))] 195 (0, 0))), F]) (sh_insert a cc (lx.held.countP (fun y => decide (y < w.session))) b13 lx.held w.session (insI_le _ _) (by omega)) (js := [1, 0, 2, 3, 4, 5, 6, 7, 8]) ⟨by decide +kernel, rfl, rfl⟩) rfl rfl rfl (.inr (fun q14 => sat_sub [3, 4] [0, 1, 2, 5, 6, 7] (by decide +kernel) rfl rfl)) (fun q14 => ?_)
      refine dj_eq (e' := [(56, (.slice q14.1 (lx.held.length + 1) q14.2)), (55, (.slice (some ⟨b13, 0, none⟩) 1 1)), (54, (.int .i64 w.session)), (53, (.pointer (some ⟨b2, 0, none⟩))), (52, (.int .i64 ((lx.held.countP (fun y => decide (y < w.session))) : Int))), (51, (.slice a lx.held.length cc)), (50, (.pointer (some ⟨p, 0, none⟩))), (49, (.pointer (some ⟨p, 0, none⟩))), (48, (.pointer (some ⟨p, 0, none⟩))), (47, (.pointer (some ⟨p, 0, none⟩))), (8, (.int .i64 ((lx.held.countP (fun y => decide (y < w.session))) : Int))), (7, (.pointer (some ⟨b4, 0, none⟩))), (6, (.pointer (some ⟨b3, 0, none⟩))), (5, (.pointer (some ⟨b2, 0, none⟩))), (1, (.pointer (some ⟨p, 0, none⟩)))]) (l' := [(sl 3 1 q14.1 (lx.held.length + 1) q14.2 ((lx.held.flatMap ei).take (lx.held.countP (fun y => decide (y < w.session))) ++ (.int .i64 w.session) :: (lx.held.flatMap ei).drop (lx.held.countP (fun y => decide (y < w.session))))), (pts b4 (.cells #[(.int .i64 w.session), (.int .i64 w.seq), (.int .i64 0), (.int .u64 ((tok + 1 : Nat) : Int)), (.int .i64 0)] 56 (0, 0))), (pts b3 (.cells #[(.int .i64 0), (.int .i64 0), (.int .i64 0), (.int .u64 0), (.int .i64 0)] 56 (0, 0))), (pts b2 (.cells #[(.int .i64 w.session), (.int .i64 w.seq), (.bool w.reader)] 197 (0, 0))), (pts p (.cells #[(.slice a lx.held.length cc), (.bool lx.writer), (.slice d lx.queue.length k)] 202 (0, 0))), (sl 197 3 d lx.queue.length k (lx.queue.flatMap encW)), (pts b (.cells #[(.map (some mb)), (.int .u64 ((tok + 1 : Nat) : Int))] 195 (0, 0))), F]) rfl rfl ?_
      obtain ⟨qa, qc⟩ := q14
      refine dj_eq (e' := [(56, (.slice qa (lx.held.length + 1) qc)), (55, (.slice (some ⟨b13, 0, none⟩) 1 1)), (54, (.int .i64 w.session)), (53, (.pointer (some ⟨b2, 0, none⟩))), (52, (.int .i64 ((lx.held.countP (fun y => decide (y < w.session))) : Int))), (51, (.slice a lx.held.length cc)), (50, (.pointer (some ⟨p, 0, none⟩))), (49, (.pointer (some ⟨p, 0, none⟩))), (48, (.pointer (some ⟨p, 0, none⟩))), (47, (.pointer (some ⟨p, 0, none⟩))), (8, (.int .i64 ((lx.held.countP (fun y => decide (y < w.session))) : Int))), (7, (.pointer (some ⟨b4, 0, none⟩))), (6, (.pointer (some ⟨b3, 0, none⟩))), (5, (.pointer (some ⟨b2, 0, none⟩))), (1, (.pointer (some ⟨p, 0, none⟩)))]) (l' := [(sl 3 1 qa (lx.held.length + 1) qc ((lx.held.flatMap ei).take (lx.held.countP (fun y => decide (y < w.session))) ++ (.int .i64 w.session) :: (lx.held.flatMap ei).drop (lx.held.countP (fun y => decide (y < w.session))))), (pts b4 (.cells #[(.int .i64 w.session), (.int .i64 w.seq), (.int .i64 0), (.int .u64 ((tok + 1 : Nat) : Int)), (.int .i64 0)] 56 (0, 0))), (pts b3 (.cells #[(.int .i64 0), (.int .i64 0), (.int .i64 0), (.int .u64 0), (.int .i64 0)] 56 (0, 0))), (pts b2 (.cells #[(.int .i64 w.session), (.int .i64 w.seq), (.bool w.reader)] 197 (0, 0))), (pts p (.cells #[(.slice a lx.held.length cc), (.bool lx.writer), (.slice d lx.queue.length k)] 202 (0, 0))), (sl 197 3 d lx.queue.length k (lx.queue.flatMap encW)), (pts b (.cells #[(.map (some mb)), (.int .u64 ((tok + 1 : Nat) : Int))] 195 (0, 0))), F]) rfl rfl ?_
      refine dj_eq (e' := [(56, (.slice qa ((insI w.session lx.held).length) qc)), (55, (.slice (some ⟨b13, 0, none⟩) 1 1)), (54, (.int .i64 w.session)), (53, (.pointer (some ⟨b2, 0, none⟩))), (52, (.int .i64 ((lx.held.countP (fun y => decide (y < w.session))) : Int))), (51, (.slice a lx.held.length cc)), (50, (.pointer (some ⟨p, 0, none⟩))), (49, (.pointer (some ⟨p, 0, none⟩))), (48, (.pointer (some ⟨p, 0, none⟩))), (47, (.pointer (some ⟨p, 0, none⟩))), (8, (.int .i64 ((lx.held.countP (fun y => decide (y < w.session))) : Int))), (7, (.pointer (some ⟨b4, 0, none⟩))), (6, (.pointer (some ⟨b3, 0, none⟩))), (5, (.pointer (some ⟨b2, 0, none⟩))), (1, (.pointer (some ⟨p, 0, none⟩)))]) (l' := [(sl 3 1 qa ((insI w.session lx.held).length) qc ((insI w.session lx.held).flatMap ei)), (pts b4 (.cells #[(.int .i64 w.session), (.int .i64 w.seq), (.int .i64 0), (.int .u64 ((tok + 1 : Nat) : Int)), (.int .i64 0)] 56 (0, 0))), (pts b3 (.cells #[(.int .i64 0), (.int .i64 0), (.int .i64 0), (.int .u64 0), (.int .i64 0)] 56 (0, 0))), (pts b2 (.cells #[(.int .i64 w.session), (.int .i64 w.seq), (.bool w.reader)] 197 (0, 0))), (pts p (.cells #[(.slice a lx.held.length cc), (.bool lx.writer), (.slice d lx.queue.length k)] 202 (0, 0))), (sl 197 3 d lx.queue.length k (lx.queue.flatMap encW)), (pts b (.cells #[(.map (some mb)), (.int .u64 ((tok + 1 : Nat) : Int))] 195 (0, 0))), F]) (by rw [insI_length]) (by rw [← ins_flat, insI_length]) ?_
      refine dj_e (oe_of_v (ov_nilCheck rfl rfl)) rfl rfl rfl (.inr (fun _ => sat_sub [3, 4] [0, 1, 2, 5, 6, 7] (by decide +kernel) rfl rfl)) (fun _ => ?_)
      refine dj_e (oe_of_v (ov_fieldAddr rfl rfl T_f202_0)) rfl rfl rfl (.inr (fun _ => sat_sub [3, 4] [0, 1, 2, 5, 6, 7] (by decide +kernel) rfl rfl)) (fun _ => ?_)
      refine dj_e0 (oe_store1 (i := 4) rfl rfl rfl T_o72 rfl rfl rfl) rfl rfl (.inl rfl) (fun _ => ?_)
      refine dj_eq (e' := [(58, (.pointer (some ⟨p, 0, none⟩))), (57, (.pointer (some ⟨p, 0, none⟩))), (56, (.slice qa ((insI w.session lx.held).length) qc)), (55, (.slice (some ⟨b13, 0, none⟩) 1 1)), (54, (.int .i64 w.session)), (53, (.pointer (some ⟨b2, 0, none⟩))), (52, (.int .i64 ((lx.held.countP (fun y => decide (y < w.session))) : Int))), (51, (.slice a lx.held.length cc)), (50, (.pointer (some ⟨p, 0, none⟩))), (49, (.pointer (some ⟨p, 0, none⟩))), (48, (.pointer (some ⟨p, 0, none⟩))), (47, (.pointer (some ⟨p, 0, none⟩))), (8, (.int .i64 ((lx.held.countP (fun y => decide (y < w.session))) : Int))), (7, (.pointer (some ⟨b4, 0, none⟩))), (6, (.pointer (some ⟨b3, 0, none⟩))), (5, (.pointer (some ⟨b2, 0, none⟩))), (1, (.pointer (some ⟨p, 0, none⟩)))]) (l' := [(sl 3 1 qa ((insI w.session lx.held).length) qc ((insI w.session lx.held).flatMap ei)), (pts b4 (.cells #[(.int .i64 w.session), (.int .i64 w.seq), (.int .i64 0), (.int .u64 ((tok + 1 : Nat) : Int)), (.int .i64 0)] 56 (0, 0))), (pts b3 (.cells #[(.int .i64 0), (.int .i64 0), (.int .i64 0), (.int .u64 0), (.int .i64 0)] 56 (0, 0))), (pts b2 (.cells #[(.int .i64 w.session), (.int .i64 w.seq), (.bool w.reader)] 197 (0, 0))), (pts p (.cells #[(.slice qa ((insI w.session lx.held).length) qc), (.bool lx.writer), (.slice d lx.queue.length k)] 202 (0, 0))), (sl 197 3 d lx.queue.length k (lx.queue.flatMap encW)), (pts b (.cells #[(.map (some mb)), (.int .u64 ((tok + 1 : Nat) : Int))] 195 (0, 0))), F]) rfl rfl ?_
      refine dj_nil ?_
      refine xj_then ?_
      refine cj_weak (e' := [(7, (.pointer (some ⟨b4, 0, none⟩))), (6, (.pointer (some ⟨b3, 0, none⟩))), (5, (.pointer (some ⟨b2, 0, none⟩))), (1, (.pointer (some ⟨p, 0, none⟩)))]) (EnvLe.cons rfl (EnvLe.cons rfl (EnvLe.cons rfl (EnvLe.cons rfl (EnvLe.nil _))))) (fun _ h => h) ?_
      refine cj_seq ?_
      refine cj_region ?_
      refine oj_v (ov_move rfl rfl) rfl rfl rfl ?_
      refine oj_v (ov_fieldAddr rfl rfl T_f197_2) rfl rfl rfl ?_
      refine oj_v (ov_load1 (v := (.bool w.reader)) rfl rfl T_o4 (rd_pts (i := 3) rfl rfl)) rfl rfl rfl ?_
      refine oj_v (ov_not rfl rfl) rfl rfl rfl ?_
      refine oj_v (ov_nilCheck rfl rfl) rfl rfl rfl ?_
      refine oj_v (ov_fieldAddr rfl rfl T_f202_1) rfl rfl rfl ?_
      refine oj_e0 (oe_store1 (i := 4) rfl rfl rfl T_o4 rfl rfl rfl) rfl rfl (fun _ => ?_)
      refine oj_eq (e' := [(64, (.pointer (some ⟨p, 1, none⟩))), (63, (.pointer (some ⟨p, 0, none⟩))), (62, (.bool (!w.reader))), (61, (.bool w.reader)), (60, (.pointer (some ⟨b2, 2, none⟩))), (59, (.pointer (some ⟨p, 0, none⟩))), (7, (.pointer (some ⟨b4, 0, none⟩))), (6, (.pointer (some ⟨b3, 0, none⟩))), (5, (.pointer (some ⟨b2, 0, none⟩))), (1, (.pointer (some ⟨p, 0, none⟩)))]) (l' := [(sl 3 1 qa ((insI w.session lx.held).length) qc ((insI w.session lx.held).flatMap ei)), (pts b4 (.cells #[(.int .i64 w.session), (.int .i64 w.seq), (.int .i64 0), (.int .u64 ((tok + 1 : Nat) : Int)), (.int .i64 0)] 56 (0, 0))), (pts b3 (.cells #[(.int .i64 0), (.int .i64 0), (.int .i64 0), (.int .u64 0), (.int .i64 0)] 56 (0, 0))), (pts b2 (.cells #[(.int .i64 w.session), (.int .i64 w.seq), (.bool w.reader)] 197 (0, 0))), (pts p (.cells #[(.slice qa ((insI w.session lx.held).length) qc), (.bool (!w.reader)), (.slice d lx.queue.length k)] 202 (0, 0))), (sl 197 3 d lx.queue.length k (lx.queue.flatMap encW)), (pts b (.cells #[(.map (some mb)), (.int .u64 ((tok + 1 : Nat) : Int))] 195 (0, 0))), F]) rfl rfl ?_
      refine oj_nil ?_
      refine xj_then ?_
      refine cj_weak (e' := [(7, (.pointer (some ⟨b4, 0, none⟩))), (6, (.pointer (some ⟨b3, 0, none⟩)))]) (EnvLe.cons rfl (EnvLe.cons rfl (EnvLe.nil _))) (fun _ h => h) ?_
      refine cj_seq ?_
      refine cj_region ?_
      refine oj_v (ov_loadn (cs := [(.int .i64 w.session), (.int .i64 w.seq), (.int .i64 0), (.int .u64 ((tok + 1 : Nat) : Int)), (.int .i64 0)]) rfl rfl T_a56 (rds_pts (i := 1) rfl rfl)) rfl rfl rfl ?_
      refine oj_e0 (oe_storen (i := 2) rfl rfl rfl T_a56 rfl rfl (by simp [Value.oneCell'])) rfl rfl (fun _ => ?_)
      refine oj_eq (e' := [(65, (.agg #[(.int .i64 w.session), (.int .i64 w.seq), (.int .i64 0), (.int .u64 ((tok + 1 : Nat) : Int)), (.int .i64 0)])), (7, (.pointer (some ⟨b4, 0, none⟩))), (6, (.pointer (some ⟨b3, 0, none⟩)))]) (l' := [(sl 3 1 qa ((insI w.session lx.held).length) qc ((insI w.session lx.held).flatMap ei)), (pts b4 (.cells #[(.int .i64 w.session), (.int .i64 w.seq), (.int .i64 0), (.int .u64 ((tok + 1 : Nat) : Int)), (.int .i64 0)] 56 (0, 0))), (pts b3 (.cells #[(.int .i64 w.session), (.int .i64 w.seq), (.int .i64 0), (.int .u64 ((tok + 1 : Nat) : Int)), (.int .i64 0)] 56 (0, 0))), (pts b2 (.cells #[(.int .i64 w.session), (.int .i64 w.seq), (.bool w.reader)] 197 (0, 0))), (pts p (.cells #[(.slice qa ((insI w.session lx.held).length) qc), (.bool (!w.reader)), (.slice d lx.queue.length k)] 202 (0, 0))), (sl 197 3 d lx.queue.length k (lx.queue.flatMap encW)), (pts b (.cells #[(.map (some mb)), (.int .u64 ((tok + 1 : Nat) : Int))] 195 (0, 0))), F]) rfl rfl ?_
      refine oj_nil ?_
      refine xj_then ?_
      refine cj_ret ?_
      have e1 : grantR tok w = ⟨w.session, w.seq, 0, tok + 1, 0⟩ := by simp [grantR, topTok, c7, h6, c7, c11, c12]
      have e2 : grantT tok w = tok + 1 := by simp [grantT, topTok, c7, h6, c7, c11, c12]
      have e3 : grantX tok lx w = ⟨insI w.session lx.held, !w.reader, lx.queue⟩ := by simp [grantX, topTok, c7, h6, c7, c11, c12]
      refine xj_retV (vs := [(.agg #[(.int .i64 w.session), (.int .i64 w.seq), (.int .i64 0), (.int .u64 ((tok + 1 : Nat) : Int)), (.int .i64 0)])]) () (.cons (res_cells (cs := [(.int .i64 w.session), (.int .i64 w.seq), (.int .i64 0), (.int .u64 ((tok + 1 : Nat) : Int)), (.int .i64 0)]) rfl T_a56 (rds_pts (i := 2) rfl rfl)) .nil) (by rw [e1]; rfl) ?_
      rw [e2, e3]
      exact fun h hs => (fun h hs => Sat.tail_mono (fun _ h1 => ex_close (l := [F]) (qa, qc, d, k) h1) hs) h (sat_sub (l' := [(pts b (.cells #[(.map (some mb)), (.int .u64 ((tok + 1 : Nat) : Int))] 195 (0, 0))), (pts p (.cells #[(.slice qa ((insI w.session lx.held).length) qc), (.bool (!w.reader)), (.slice d lx.queue.length k)] 202 (0, 0))), (sl 3 1 qa ((insI w.session lx.held).length) qc ((insI w.session lx.held).flatMap ei)), (sl 197 3 d lx.queue.length k (lx.queue.flatMap encW)), F]) [6, 4, 0, 5, 7] [1, 2, 3] (by decide +kernel) rfl rfl h hs)
  · have h15 : w.reader = true := by simpa using h5
    have c16 := h15
    refine cj_skip ?_
    refine xj_then ?_
    refine cj_weak (e' := [(7, (.pointer (some ⟨b4, 0, none⟩))), (6, (.pointer (some ⟨b3, 0, none⟩))), (5, (.pointer (some ⟨b2, 0, none⟩))), (0, (.pointer (some ⟨b, 0, none⟩))), (1, (.pointer (some ⟨p, 0, none⟩)))]) (EnvLe.cons rfl (EnvLe.cons rfl (EnvLe.cons rfl (EnvLe.cons rfl (EnvLe.cons rfl (EnvLe.nil _)))))) (fun _ h => h) ?_
    refine cj_seq ?_
    refine cj_region ?_
    refine oj_v (ov_move rfl rfl) rfl rfl rfl ?_
    refine oj_v (ov_nilCheck rfl rfl) rfl rfl rfl ?_
    refine oj_v (ov_fieldAddr rfl rfl T_f195_1) rfl rfl rfl ?_
    refine oj_v (ov_load1 (v := (.int .u64 (tok : Int))) rfl rfl T_o54 (rd_pts (i := 6) rfl rfl)) rfl rfl rfl ?_
    refine oj_v (ov_fieldAddr rfl rfl T_f56_3) rfl rfl rfl ?_
    refine oj_e0 (oe_store1 (i := 0) rfl rfl rfl T_o54 rfl rfl rfl) rfl rfl (fun _ => ?_)
    refine oj_eq (e' := [(36, (.pointer (some ⟨b4, 3, none⟩))), (35, (.int .u64 (tok : Int))), (34, (.pointer (some ⟨b, 1, none⟩))), (33, (.pointer (some ⟨b, 0, none⟩))), (32, (.pointer (some ⟨b, 0, none⟩))), (7, (.pointer (some ⟨b4, 0, none⟩))), (6, (.pointer (some ⟨b3, 0, none⟩))), (5, (.pointer (some ⟨b2, 0, none⟩))), (0, (.pointer (some ⟨b, 0, none⟩))), (1, (.pointer (some ⟨p, 0, none⟩)))]) (l' := [(pts b4 (.cells #[(.int .i64 w.session), (.int .i64 w.seq), (.int .i64 0), (.int .u64 (tok : Int)), (.int .i64 0)] 56 (0, 0))), (pts b3 (.cells #[(.int .i64 0), (.int .i64 0), (.int .i64 0), (.int .u64 0), (.int .i64 0)] 56 (0, 0))), (pts b2 (.cells #[(.int .i64 w.session), (.int .i64 w.seq), (.bool w.reader)] 197 (0, 0))), (pts p (.cells #[(.slice a lx.held.length cc), (.bool lx.writer), (.slice d lx.queue.length k)] 202 (0, 0))), (sl 3 1 a lx.held.length cc (lx.held.flatMap ei)), (sl 197 3 d lx.queue.length k (lx.queue.flatMap encW)), (pts b (.cells #[(.map (some mb)), (.int .u64 (tok : Int))] 195 (0, 0))), F]) rfl rfl ?_
    refine oj_nil ?_
    refine xj_then ?_
    refine cj_weak (e' := [(7, (.pointer (some ⟨b4, 0, none⟩))), (6, (.pointer (some ⟨b3, 0, none⟩))), (5, (.pointer (some ⟨b2, 0, none⟩))), (1, (.pointer (some ⟨p, 0, none⟩)))]) (EnvLe.cons rfl (EnvLe.cons rfl (EnvLe.cons rfl (EnvLe.cons rfl (EnvLe.nil _))))) (fun _ h => h) ?_
    refine cj_seq ?_
    refine cj_sched [(pts b2 (.cells #[(.int .i64 w.session), (.int .i64 w.seq), (.bool w.reader)] 197 (0, 0))), (pts p (.cells #[(.slice a lx.held.length cc), (.bool lx.writer), (.slice d lx.queue.length k)] 202 (0, 0)))] [] [(0, true), (1, true), (2, true), (3, true), (4, false), (5, false), (6, false), (7, false), (8, true), (9, true), (10, false), (11, false)] T_mixed (by decide +kernel) rfl ?_
    refine dj_eq (e' := [(7, (.pointer (some ⟨b4, 0, none⟩))), (6, (.pointer (some ⟨b3, 0, none⟩))), (5, (.pointer (some ⟨b2, 0, none⟩))), (1, (.pointer (some ⟨p, 0, none⟩)))]) (l' := [(pts b4 (.cells #[(.int .i64 w.session), (.int .i64 w.seq), (.int .i64 0), (.int .u64 (tok : Int)), (.int .i64 0)] 56 (0, 0))), (pts b3 (.cells #[(.int .i64 0), (.int .i64 0), (.int .i64 0), (.int .u64 0), (.int .i64 0)] 56 (0, 0))), (pts b2 (.cells #[(.int .i64 w.session), (.int .i64 w.seq), (.bool w.reader)] 197 (0, 0))), (pts p (.cells #[(.slice a lx.held.length cc), (.bool lx.writer), (.slice d lx.queue.length k)] 202 (0, 0))), (sl 3 1 a lx.held.length cc (lx.held.flatMap ei)), (sl 197 3 d lx.queue.length k (lx.queue.flatMap encW)), (pts b (.cells #[(.map (some mb)), (.int .u64 (tok : Int))] 195 (0, 0))), F]) rfl rfl ?_
    refine dj_v (np_then np_body) (ov_move rfl rfl) rfl rfl rfl (sat_sub [2, 3] [0, 1, 4, 5, 6, 7] (by decide +kernel) rfl rfl) ?_
    refine dj_v (np_then np_body) (ov_nilCheck rfl rfl) rfl rfl rfl (sat_sub [2, 3] [0, 1, 4, 5, 6, 7] (by decide +kernel) rfl rfl) ?_
    refine dj_v (np_then np_body) (ov_fieldAddr rfl rfl T_f202_0) rfl rfl rfl (sat_sub [2, 3] [0, 1, 4, 5, 6, 7] (by decide +kernel) rfl rfl) ?_
    refine dj_v (np_then np_body) (ov_load1 (v := (.slice a lx.held.length cc)) rfl rfl T_o72 (rd_pts (i := 1) rfl rfl)) rfl rfl rfl (sat_sub [2, 3] [0, 1, 4, 5, 6, 7] (by decide +kernel) rfl rfl) ?_
    refine dj_e (oe_of_v (ov_fieldAddr rfl rfl T_f197_0)) rfl rfl rfl (.inr (fun _ => sat_sub [2, 3] [0, 1, 4, 5, 6, 7] (by decide +kernel) rfl rfl)) (fun _ => ?_)
    refine dj_e (oe_of_v (ov_load1 (v := (.int .i64 w.session)) rfl rfl T_o3 (rd_pts (i := 2) rfl rfl))) rfl rfl rfl (.inr (fun _ => sat_sub [2, 3] [0, 1, 4, 5, 6, 7] (by decide +kernel) rfl rfl)) (fun _ => ?_)
    refine dj_e (oe_call rfl rfl rfl Try.func189 rfl rfl (rest := [(pts b4 (.cells #[(.int .i64 w.session), (.int .i64 w.seq), (.int .i64 0), (.int .u64 (tok : Int)), (.int .i64 0)] 56 (0, 0))), (pts b3 (.cells #[(.int .i64 0), (.int .i64 0), (.int .i64 0), (.int .u64 0), (.int .i64 0)] 56 (0, 0))), (pts b2 (.cells #[(.int .i64 w.session), (.int .i64 w.seq), (.bool w.reader)] 197 (0, 0))), (pts p (.cells #[(.slice a lx.held.length cc), (.bool lx.writer), (.slice d lx.queue.length k)] 202 (0, 0))), (sl 197 3 d lx.queue.length k (lx.queue.flatMap encW)), (pts b (.cells #[(.map (some mb)), (.int .u64 (tok : Int))] 195 (0, 0))), F]) (sh_search a cc lx.held w.session (by omega) hs) (js := [4, 0, 1, 2, 3, 5, 6, 7]) ⟨by decide +kernel, rfl, rfl⟩) rfl rfl rfl (.inr (fun _ => sat_sub [3, 4] [0, 1, 2, 5, 6, 7] (by decide +kernel) rfl rfl)) (fun _ => ?_)
    refine dj_eq (e' := [(44, (.tuple #[(.int .i64 ((lx.held.countP (fun y => decide (y < w.session))) : Int)), (.bool (lx.held.contains w.session))])), (43, (.int .i64 w.session)), (42, (.pointer (some ⟨b2, 0, none⟩))), (41, (.slice a lx.held.length cc)), (40, (.pointer (some ⟨p, 0, none⟩))), (39, (.pointer (some ⟨p, 0, none⟩))), (38, (.pointer (some ⟨p, 0, none⟩))), (7, (.pointer (some ⟨b4, 0, none⟩))), (6, (.pointer (some ⟨b3, 0, none⟩))), (5, (.pointer (some ⟨b2, 0, none⟩))), (1, (.pointer (some ⟨p, 0, none⟩)))]) (l' := [(sl 3 1 a lx.held.length cc (lx.held.flatMap ei)), (pts b4 (.cells #[(.int .i64 w.session), (.int .i64 w.seq), (.int .i64 0), (.int .u64 (tok : Int)), (.int .i64 0)] 56 (0, 0))), (pts b3 (.cells #[(.int .i64 0), (.int .i64 0), (.int .i64 0), (.int .u64 0), (.int .i64 0)] 56 (0, 0))), (pts b2 (.cells #[(.int .i64 w.session), (.int .i64 w.seq), (.bool w.reader)] 197 (0, 0))), (pts p (.cells #[(.slice a lx.held.length cc), (.bool lx.writer), (.slice d lx.queue.length k)] 202 (0, 0))), (sl 197 3 d lx.queue.length k (lx.queue.flatMap encW)), (pts b (.cells #[(.map (some mb)), (.int .u64 (tok : Int))] 195 (0, 0))), F]) rfl rfl ?_
    refine dj_e (oe_of_v (ov_move rfl rfl)) rfl rfl rfl (.inr (fun _ => sat_sub [3, 4] [0, 1, 2, 5, 6, 7] (by decide +kernel) rfl rfl)) (fun _ => ?_)
    refine dj_v (np_then np_body) (ov_extract rfl rfl rfl) rfl rfl rfl (sat_sub [3, 4] [0, 1, 2, 5, 6, 7] (by decide +kernel) rfl rfl) ?_
    refine dj_v (np_then np_body) (ov_extract rfl rfl rfl) rfl rfl rfl (sat_sub [3, 4] [0, 1, 2, 5, 6, 7] (by decide +kernel) rfl rfl) ?_
    refine dj_e (oe_of_v (ov_assign rfl rfl)) rfl rfl rfl (.inr (fun _ => sat_sub [3, 4] [0, 1, 2, 5, 6, 7] (by decide +kernel) rfl rfl)) (fun _ => ?_)
    refine dj_e (oe_of_v (ov_assign rfl rfl)) rfl rfl rfl (.inr (fun _ => sat_sub [3, 4] [0, 1, 2, 5, 6, 7] (by decide +kernel) rfl rfl)) (fun _ => ?_)
    refine dj_nil ?_
    refine xj_then ?_
    refine cj_weak (e' := [(8, (.int .i64 ((lx.held.countP (fun y => decide (y < w.session))) : Int))), (7, (.pointer (some ⟨b4, 0, none⟩))), (6, (.pointer (some ⟨b3, 0, none⟩))), (5, (.pointer (some ⟨b2, 0, none⟩))), (1, (.pointer (some ⟨p, 0, none⟩)))]) (EnvLe.cons rfl (EnvLe.cons rfl (EnvLe.cons rfl (EnvLe.cons rfl (EnvLe.cons rfl (EnvLe.nil _)))))) (fun _ h => h) ?_
    refine cj_seq ?_
    refine cj_sched [(pts b2 (.cells #[(.int .i64 w.session), (.int .i64 w.seq), (.bool w.reader)] 197 (0, 0))), (pts p (.cells #[(.slice a lx.held.length cc), (.bool lx.writer), (.slice d lx.queue.length k)] 202 (0, 0)))] [12] [(0, true), (1, true), (2, true), (3, true), (4, true), (5, true), (6, false), (7, false), (8, false), (9, false), (10, false), (11, false), (12, false)] T_mixed (by decide +kernel) rfl ?_
    refine dj_eq (e' := [(8, (.int .i64 ((lx.held.countP (fun y => decide (y < w.session))) : Int))), (7, (.pointer (some ⟨b4, 0, none⟩))), (6, (.pointer (some ⟨b3, 0, none⟩))), (5, (.pointer (some ⟨b2, 0, none⟩))), (1, (.pointer (some ⟨p, 0, none⟩)))]) (l' := [(sl 3 1 a lx.held.length cc (lx.held.flatMap ei)), (pts b4 (.cells #[(.int .i64 w.session), (.int .i64 w.seq), (.int .i64 0), (.int .u64 (tok : Int)), (.int .i64 0)] 56 (0, 0))), (pts b3 (.cells #[(.int .i64 0), (.int .i64 0), (.int .i64 0), (.int .u64 0), (.int .i64 0)] 56 (0, 0))), (pts b2 (.cells #[(.int .i64 w.session), (.int .i64 w.seq), (.bool w.reader)] 197 (0, 0))), (pts p (.cells #[(.slice a lx.held.length cc), (.bool lx.writer), (.slice d lx.queue.length k)] 202 (0, 0))), (sl 197 3 d lx.queue.length k (lx.queue.flatMap encW)), (pts b (.cells #[(.map (some mb)), (.int .u64 (tok : Int))] 195 (0, 0))), F]) rfl rfl ?_
    refine dj_v (np_then np_body) (ov_move rfl rfl) rfl rfl rfl (sat_sub [3, 4] [0, 1, 2, 5, 6, 7] (by decide +kernel) rfl rfl) ?_
    refine dj_v (np_then np_body) (ov_move rfl rfl) rfl rfl rfl (sat_sub [3, 4] [0, 1, 2, 5, 6, 7] (by decide +kernel) rfl rfl) ?_
    refine dj_v (np_then np_body) (ov_nilCheck rfl rfl) rfl rfl rfl (sat_sub [3, 4] [0, 1, 2, 5, 6, 7] (by decide +kernel) rfl rfl) ?_
    refine dj_v (np_then np_body) (ov_fieldAddr rfl rfl T_f202_0) rfl rfl rfl (sat_sub [3, 4] [0, 1, 2, 5, 6, 7] (by decide +kernel) rfl rfl) ?_
    refine dj_v (np_then np_body) (ov_load1 (v := (.slice a lx.held.length cc)) rfl rfl T_o72 (rd_pts (i := 1) rfl rfl)) rfl rfl rfl (sat_sub [3, 4] [0, 1, 2, 5, 6, 7] (by decide +kernel) rfl rfl) ?_
    refine dj_v (np_then np_body) (ov_move rfl rfl) rfl rfl rfl (sat_sub [3, 4] [0, 1, 2, 5, 6, 7] (by decide +kernel) rfl rfl) ?_
    refine dj_e (oe_of_v (ov_fieldAddr rfl rfl T_f197_0)) rfl rfl rfl (.inr (fun _ => sat_sub [3, 4] [0, 1, 2, 5, 6, 7] (by decide +kernel) rfl rfl)) (fun _ => ?_)
    refine dj_e (oe_of_v (ov_load1 (v := (.int .i64 w.session)) rfl rfl T_o3 (rd_pts (i := 3) rfl rfl))) rfl rfl rfl (.inr (fun _ => sat_sub [3, 4] [0, 1, 2, 5, 6, 7] (by decide +kernel) rfl rfl)) (fun _ => ?_)
    refine dj_e (oe_buildSlice (cells := #[(.int .i64 w.session)]) rfl T_e72 T_z3 rfl rfl rfl rfl) rfl rfl rfl (.inr (fun b17 => sat_sub [4, 5] [0, 1, 2, 3, 6, 7, 8] (by decide +kernel) rfl rfl)) (fun b17 => ?_)
    refine dj_eq (e' := [(55, (.slice (some ⟨b17, 0, none⟩) 1 1)), (54, (.int .i64 w.session)), (53, (.pointer (some ⟨b2, 0, none⟩))), (52, (.int .i64 ((lx.held.countP (fun y => decide (y < w.session))) : Int))), (51, (.slice a lx.held.length cc)), (50, (.pointer (some ⟨p, 0, none⟩))), (49, (.pointer (some ⟨p, 0, none⟩))), (48, (.pointer (some ⟨p, 0, none⟩))), (47, (.pointer (some ⟨p, 0, none⟩))), (8, (.int .i64 ((lx.held.countP (fun y => decide (y < w.session))) : Int))), (7, (.pointer (some ⟨b4, 0, none⟩))), (6, (.pointer (some ⟨b3, 0, none⟩))), (5, (.pointer (some ⟨b2, 0, none⟩))), (1, (.pointer (some ⟨p, 0, none⟩)))]) (l' := [(pts b17 (.cells #[(.int .i64 w.session)] 3 (0, 0))), (sl 3 1 a lx.held.length cc (lx.held.flatMap ei)), (pts b4 (.cells #[(.int .i64 w.session), (.int .i64 w.seq), (.int .i64 0), (.int .u64 (tok : Int)), (.int .i64 0)] 56 (0, 0))), (pts b3 (.cells #[(.int .i64 0), (.int .i64 0), (.int .i64 0), (.int .u64 0), (.int .i64 0)] 56 (0, 0))), (pts b2 (.cells #[(.int .i64 w.session), (.int .i64 w.seq), (.bool w.reader)] 197 (0, 0))), (pts p (.cells #[(.slice a lx.held.length cc), (.bool lx.writer), (.slice d lx.queue.length k)] 202 (0, 0))), (sl 197 3 d lx.queue.length k (lx.queue.flatMap encW)), (pts b (.cells #[(.map (some mb)), (.int .u64 (tok : Int))] 195 (0, 0))), F]) rfl rfl ?_
    refine dj_e (oe_call rfl rfl rfl Try.func195 rfl rfl (rest := [(pts b4 (.cells #[(.int .i64 w.session), (.int .i64 w.seq), (.int .i64 0), (.int .u64 (tok : Int)), (.int .i64 0)] 56 (0, 0))), (pts b3 (.cells #[(.int .i64 0), (.int .i64 0), (.int .i64 0), (.int .u64 0), (.int .i64 0)] 56 (0, 0))), (pts b2 (.cells #[(.int .i64 w.session), (.int .i64 w.seq), (.bool w.reader)] 197 (0, 0))), (pts p (.cells #[(.slice a lx.held.length cc), (.bool lx.writer), (.slice d lx.queue.length k)] 202 (0, 0))), (sl 197 3 d lx.queue.length k (lx.queue.flatMap encW)), (pts b (.cells #[(.map (some mb)), (.int .u64 (tok : Int))] 195 (0, 0))), F]) (sh_insert a cc (lx.held.countP (fun y => decide (y < w.session))) b17 lx.held w.session (insI_le _ _) (by omega)) (js := [1, 0, 2, 3, 4, 5, 6, 7, 8]) ⟨by decide +kernel, rfl, rfl⟩) rfl rfl rfl (.inr (fun q18 => sat_sub [3, 4] [0, 1, 2, 5, 6, 7] (by decide +kernel) rfl rfl)) (fun q18 => ?_)
    refine dj_eq (e' := [(56, (.slice q18.1 (lx.held.length + 1) q18.2)), (55, (.slice (some ⟨b17, 0, none⟩) 1 1)), (54, (.int .i64 w.session)), (53, (.pointer (some ⟨b2, 0, none⟩))), (52, (.int .i64 ((lx.held.countP (fun y => decide (y < w.session))) : Int))), (51, (.slice a lx.held.length cc)), (50, (.pointer (some ⟨p, 0, none⟩))), (49, (.pointer (some ⟨p, 0, none⟩))), (48, (.pointer (some ⟨p, 0, none⟩))), (47, (.pointer (some ⟨p, 0, none⟩))), (8, (.int .i64 ((lx.held.countP (fun y => decide (y < w.session))) : Int))), (7, (.pointer (some ⟨b4, 0, none⟩))), (6, (.pointer (some ⟨b3, 0, none⟩))), (5, (.pointer (some ⟨b2, 0, none⟩))), (1, (.pointer (some ⟨p, 0, none⟩)))]) (l' := [(sl 3 1 q18.1 (lx.held.length + 1) q18.2 ((lx.held.flatMap ei).take (lx.held.countP (fun y => decide (y < w.session))) ++ (.int .i64 w.session) :: (lx.held.flatMap ei).drop (lx.held.countP (fun y => decide (y < w.session))))), (pts b4 (.cells #[(.int .i64 w.session), (.int .i64 w.seq), (.int .i64 0), (.int .u64 (tok : Int)), (.int .i64 0)] 56 (0, 0))), (pts b3 (.cells #[(.int .i64 0), (.int .i64 0), (.int .i64 0), (.int .u64 0), (.int .i64 0)] 56 (0, 0))), (pts b2 (.cells #[(.int .i64 w.session), (.int .i64 w.seq), (.bool w.reader)] 197 (0, 0))), (pts p (.cells #[(.slice a lx.held.length cc), (.bool lx.writer), (.slice d lx.queue.length k)] 202 (0, 0))), (sl 197 3 d lx.queue.length k (lx.queue.flatMap encW)), (pts b (.cells #[(.map (some mb)), (.int .u64 (tok : Int))] 195 (0, 0))), F]) rfl rfl ?_
    obtain ⟨qa, qc⟩ := q18
    refine dj_eq (e' := [(56, (.slice qa (lx.held.length + 1) qc)), (55, (.slice (some ⟨b17, 0, none⟩) 1 1)), (54, (.int .i64 w.session)), (53, (.pointer (some ⟨b2, 0, none⟩))), (52, (.int .i64 ((lx.held.countP (fun y => decide (y < w.session))) : Int))), (51, (.slice a lx.held.length cc)), (50, (.pointer (some ⟨p, 0, none⟩))), (49, (.pointer (some ⟨p, 0, none⟩))), (48, (.pointer (some ⟨p, 0, none⟩))), (47, (.pointer (some ⟨p, 0, none⟩))), (8, (.int .i64 ((lx.held.countP (fun y => decide (y < w.session))) : Int))), (7, (.pointer (some ⟨b4, 0, none⟩))), (6, (.pointer (some ⟨b3, 0, none⟩))), (5, (.pointer (some ⟨b2, 0, none⟩))), (1, (.pointer (some ⟨p, 0, none⟩)))]) (l' := [(sl 3 1 qa (lx.held.length + 1) qc ((lx.held.flatMap ei).take (lx.held.countP (fun y => decide (y < w.session))) ++ (.int .i64 w.session) :: (lx.held.flatMap ei).drop (lx.held.countP (fun y => decide (y < w.session))))), (pts b4 (.cells #[(.int .i64 w.session), (.int .i64 w.seq), (.int .i64 0), (.int .u64 (tok : Int)), (.int .i64 0)] 56 (0, 0))), (pts b3 (.cells #[(.int .i64 0), (.int .i64 0), (.int .i64 0), (.int .u64 0), (.int .i64 0)] 56 (0, 0))), (pts b2 (.cells #[(.int .i64 w.session), (.int .i64 w.seq), (.bool w.reader)] 197 (0, 0))), (pts p (.cells #[(.slice a lx.held.length cc), (.bool lx.writer), (.slice d lx.queue.length k)] 202 (0, 0))), (sl 197 3 d lx.queue.length k (lx.queue.flatMap encW)), (pts b (.cells #[(.map (some mb)), (.int .u64 (tok : Int))] 195 (0, 0))), F]) rfl rfl ?_
    refine dj_eq (e' := [(56, (.slice qa ((insI w.session lx.held).length) qc)), (55, (.slice (some ⟨b17, 0, none⟩) 1 1)), (54, (.int .i64 w.session)), (53, (.pointer (some ⟨b2, 0, none⟩))), (52, (.int .i64 ((lx.held.countP (fun y => decide (y < w.session))) : Int))), (51, (.slice a lx.held.length cc)), (50, (.pointer (some ⟨p, 0, none⟩))), (49, (.pointer (some ⟨p, 0, none⟩))), (48, (.pointer (some ⟨p, 0, none⟩))), (47, (.pointer (some ⟨p, 0, none⟩))), (8, (.int .i64 ((lx.held.countP (fun y => decide (y < w.session))) : Int))), (7, (.pointer (some ⟨b4, 0, none⟩))), (6, (.pointer (some ⟨b3, 0, none⟩))), (5, (.pointer (some ⟨b2, 0, none⟩))), (1, (.pointer (some ⟨p, 0, none⟩)))]) (l' := [(sl 3 1 qa ((insI w.session lx.held).length) qc ((insI w.session lx.held).flatMap ei)), (pts b4 (.cells #[(.int .i64 w.session), (.int .i64 w.seq), (.int .i64 0), (.int .u64 (tok : Int)), (.int .i64 0)] 56 (0, 0))), (pts b3 (.cells #[(.int .i64 0), (.int .i64 0), (.int .i64 0), (.int .u64 0), (.int .i64 0)] 56 (0, 0))), (pts b2 (.cells #[(.int .i64 w.session), (.int .i64 w.seq), (.bool w.reader)] 197 (0, 0))), (pts p (.cells #[(.slice a lx.held.length cc), (.bool lx.writer), (.slice d lx.queue.length k)] 202 (0, 0))), (sl 197 3 d lx.queue.length k (lx.queue.flatMap encW)), (pts b (.cells #[(.map (some mb)), (.int .u64 (tok : Int))] 195 (0, 0))), F]) (by rw [insI_length]) (by rw [← ins_flat, insI_length]) ?_
    refine dj_e (oe_of_v (ov_nilCheck rfl rfl)) rfl rfl rfl (.inr (fun _ => sat_sub [3, 4] [0, 1, 2, 5, 6, 7] (by decide +kernel) rfl rfl)) (fun _ => ?_)
    refine dj_e (oe_of_v (ov_fieldAddr rfl rfl T_f202_0)) rfl rfl rfl (.inr (fun _ => sat_sub [3, 4] [0, 1, 2, 5, 6, 7] (by decide +kernel) rfl rfl)) (fun _ => ?_)
    refine dj_e0 (oe_store1 (i := 4) rfl rfl rfl T_o72 rfl rfl rfl) rfl rfl (.inl rfl) (fun _ => ?_)
    refine dj_eq (e' := [(58, (.pointer (some ⟨p, 0, none⟩))), (57, (.pointer (some ⟨p, 0, none⟩))), (56, (.slice qa ((insI w.session lx.held).length) qc)), (55, (.slice (some ⟨b17, 0, none⟩) 1 1)), (54, (.int .i64 w.session)), (53, (.pointer (some ⟨b2, 0, none⟩))), (52, (.int .i64 ((lx.held.countP (fun y => decide (y < w.session))) : Int))), (51, (.slice a lx.held.length cc)), (50, (.pointer (some ⟨p, 0, none⟩))), (49, (.pointer (some ⟨p, 0, none⟩))), (48, (.pointer (some ⟨p, 0, none⟩))), (47, (.pointer (some ⟨p, 0, none⟩))), (8, (.int .i64 ((lx.held.countP (fun y => decide (y < w.session))) : Int))), (7, (.pointer (some ⟨b4, 0, none⟩))), (6, (.pointer (some ⟨b3, 0, none⟩))), (5, (.pointer (some ⟨b2, 0, none⟩))), (1, (.pointer (some ⟨p, 0, none⟩)))]) (l' := [(sl 3 1 qa ((insI w.session lx.held).length) qc ((insI w.session lx.held).flatMap ei)), (pts b4 (.cells #[(.int .i64 w.session), (.int .i64 w.seq), (.int .i64 0), (.int .u64 (tok : Int)), (.int .i64 0)] 56 (0, 0))), (pts b3 (.cells #[(.int .i64 0), (.int .i64 0), (.int .i64 0), (.int .u64 0), (.int .i64 0)] 56 (0, 0))), (pts b2 (.cells #[(.int .i64 w.session), (.int .i64 w.seq), (.bool w.reader)] 197 (0, 0))), (pts p (.cells #[(.slice qa ((insI w.session lx.held).length) qc), (.bool lx.writer), (.slice d lx.queue.length k)] 202 (0, 0))), (sl 197 3 d lx.queue.length k (lx.queue.flatMap encW)), (pts b (.cells #[(.map (some mb)), (.int .u64 (tok : Int))] 195 (0, 0))), F]) rfl rfl ?_
    refine dj_nil ?_
    refine xj_then ?_
    refine cj_weak (e' := [(7, (.pointer (some ⟨b4, 0, none⟩))), (6, (.pointer (some ⟨b3, 0, none⟩))), (5, (.pointer (some ⟨b2, 0, none⟩))), (1, (.pointer (some ⟨p, 0, none⟩)))]) (EnvLe.cons rfl (EnvLe.cons rfl (EnvLe.cons rfl (EnvLe.cons rfl (EnvLe.nil _))))) (fun _ h => h) ?_
    refine cj_seq ?_
    refine cj_region ?_
    refine oj_v (ov_move rfl rfl) rfl rfl rfl ?_
    refine oj_v (ov_fieldAddr rfl rfl T_f197_2) rfl rfl rfl ?_
    refine oj_v (ov_load1 (v := (.bool w.reader)) rfl rfl T_o4 (rd_pts (i := 3) rfl rfl)) rfl rfl rfl ?_
    refine oj_v (ov_not rfl rfl) rfl rfl rfl ?_
    refine oj_v (ov_nilCheck rfl rfl) rfl rfl rfl ?_
    refine oj_v (ov_fieldAddr rfl rfl T_f202_1) rfl rfl rfl ?_
    refine oj_e0 (oe_store1 (i := 4) rfl rfl rfl T_o4 rfl rfl rfl) rfl rfl (fun _ => ?_)
    refine oj_eq (e' := [(64, (.pointer (some ⟨p, 1, none⟩))), (63, (.pointer (some ⟨p, 0, none⟩))), (62, (.bool (!w.reader))), (61, (.bool w.reader)), (60, (.pointer (some ⟨b2, 2, none⟩))), (59, (.pointer (some ⟨p, 0, none⟩))), (7, (.pointer (some ⟨b4, 0, none⟩))), (6, (.pointer (some ⟨b3, 0, none⟩))), (5, (.pointer (some ⟨b2, 0, none⟩))), (1, (.pointer (some ⟨p, 0, none⟩)))]) (l' := [(sl 3 1 qa ((insI w.session lx.held).length) qc ((insI w.session lx.held).flatMap ei)), (pts b4 (.cells #[(.int .i64 w.session), (.int .i64 w.seq), (.int .i64 0), (.int .u64 (tok : Int)), (.int .i64 0)] 56 (0, 0))), (pts b3 (.cells #[(.int .i64 0), (.int .i64 0), (.int .i64 0), (.int .u64 0), (.int .i64 0)] 56 (0, 0))), (pts b2 (.cells #[(.int .i64 w.session), (.int .i64 w.seq), (.bool w.reader)] 197 (0, 0))), (pts p (.cells #[(.slice qa ((insI w.session lx.held).length) qc), (.bool (!w.reader)), (.slice d lx.queue.length k)] 202 (0, 0))), (sl 197 3 d lx.queue.length k (lx.queue.flatMap encW)), (pts b (.cells #[(.map (some mb)), (.int .u64 (tok : Int))] 195 (0, 0))), F]) rfl rfl ?_
    refine oj_nil ?_
    refine xj_then ?_
    refine cj_weak (e' := [(7, (.pointer (some ⟨b4, 0, none⟩))), (6, (.pointer (some ⟨b3, 0, none⟩)))]) (EnvLe.cons rfl (EnvLe.cons rfl (EnvLe.nil _))) (fun _ h => h) ?_
    refine cj_seq ?_
    refine cj_region ?_
    refine oj_v (ov_loadn (cs := [(.int .i64 w.session), (.int .i64 w.seq), (.int .i64 0), (.int .u64 (tok : Int)), (.int .i64 0)]) rfl rfl T_a56 (rds_pts (i := 1) rfl rfl)) rfl rfl rfl ?_
    refine oj_e0 (oe_storen (i := 2) rfl rfl rfl T_a56 rfl rfl (by simp [Value.oneCell'])) rfl rfl (fun _ => ?_)
    refine oj_eq (e' := [(65, (.agg #[(.int .i64 w.session), (.int .i64 w.seq), (.int .i64 0), (.int .u64 (tok : Int)), (.int .i64 0)])), (7, (.pointer (some ⟨b4, 0, none⟩))), (6, (.pointer (some ⟨b3, 0, none⟩)))]) (l' := [(sl 3 1 qa ((insI w.session lx.held).length) qc ((insI w.session lx.held).flatMap ei)), (pts b4 (.cells #[(.int .i64 w.session), (.int .i64 w.seq), (.int .i64 0), (.int .u64 (tok : Int)), (.int .i64 0)] 56 (0, 0))), (pts b3 (.cells #[(.int .i64 w.session), (.int .i64 w.seq), (.int .i64 0), (.int .u64 (tok : Int)), (.int .i64 0)] 56 (0, 0))), (pts b2 (.cells #[(.int .i64 w.session), (.int .i64 w.seq), (.bool w.reader)] 197 (0, 0))), (pts p (.cells #[(.slice qa ((insI w.session lx.held).length) qc), (.bool (!w.reader)), (.slice d lx.queue.length k)] 202 (0, 0))), (sl 197 3 d lx.queue.length k (lx.queue.flatMap encW)), (pts b (.cells #[(.map (some mb)), (.int .u64 (tok : Int))] 195 (0, 0))), F]) rfl rfl ?_
    refine oj_nil ?_
    refine xj_then ?_
    refine cj_ret ?_
    have e1 : grantR tok w = ⟨w.session, w.seq, 0, tok, 0⟩ := by simp [grantR, topTok, c16, h15, c16]
    have e2 : grantT tok w = tok := by simp [grantT, topTok, c16, h15, c16]
    have e3 : grantX tok lx w = ⟨insI w.session lx.held, !w.reader, lx.queue⟩ := by simp [grantX, topTok, c16, h15, c16]
    refine xj_retV (vs := [(.agg #[(.int .i64 w.session), (.int .i64 w.seq), (.int .i64 0), (.int .u64 (tok : Int)), (.int .i64 0)])]) () (.cons (res_cells (cs := [(.int .i64 w.session), (.int .i64 w.seq), (.int .i64 0), (.int .u64 (tok : Int)), (.int .i64 0)]) rfl T_a56 (rds_pts (i := 2) rfl rfl)) .nil) (by rw [e1]; rfl) ?_
    rw [e2, e3]
    exact fun h hs => (fun h hs => Sat.tail_mono (fun _ h1 => ex_close (l := [F]) (qa, qc, d, k) h1) hs) h (sat_sub (l' := [(pts b (.cells #[(.map (some mb)), (.int .u64 (tok : Int))] 195 (0, 0))), (pts p (.cells #[(.slice qa ((insI w.session lx.held).length) qc), (.bool (!w.reader)), (.slice d lx.queue.length k)] 202 (0, 0))), (sl 3 1 qa ((insI w.session lx.held).length) qc ((insI w.session lx.held).flatMap ei)), (sl 197 3 d lx.queue.length k (lx.queue.flatMap encW)), F]) [6, 4, 0, 5, 7] [1, 2, 3] (by decide +kernel) rfl rfl h hs)


theorem names_step {ks ls : List Nm} {rem rem' : List (Nm × Value)} {k : Nm} {v : Value} (h : (ks ++ rem.map (·.1)).Perm ls) (p : rem.Perm ((k, v) :: rem')) : ((ks ++ [k]) ++ rem'.map (·.1)).Perm ls := by
  refine List.Perm.trans ?_ h
  have := p.map (·.1)
  simp only [List.map_cons] at this
  rw [List.append_assoc]
  exact (this.symm.append_left ks)

set_option maxRecDepth 100000 in
set_option maxHeartbeats 8000000 in
theorem lk_names (b tok : Nat) (m : Lks) (hr : Rising m) (hml : m.length ≤ 1073741824) : Spec Try.prog 129 [(.pointer (some ⟨b, 0, none⟩))] [(LocksR m tok b)] (fun x : Option Addr × Nat => .slice x.1 (m.map (·.1)).length x.2) (fun x : Option Addr × Nat => [sl 9 1 x.1 (m.map (·.1)).length x.2 ((m.map (·.1)).flatMap es), LocksR m tok b]) := by
  refine spec_of (fn := Try.f129) Try.func129 rfl rfl rfl fun F s => ?_
  show CJ _ _ _ _ _ [(0, (.pointer (some ⟨b, 0, none⟩)))] [(LocksR m tok b), F]
  refine cj_seq ?_
  refine cj_out (sat_open 0 rfl) (fun x1 => ?_)
  obtain ⟨mb, l⟩ := x1
  refine cj_eq (e' := [(0, (.pointer (some ⟨b, 0, none⟩)))]) (l' := [(fact (l.map (fun e => (e.1, e.2.2)) = m)), (pts b (.cells #[(.map (some mb)), (.int .u64 (tok : Int))] 195 (0, 0))), (mp encS mb (l.map ptrE)), (all lockE l), F]) rfl rfl ?_
  refine cj_fact (sat_fact 0 rfl) (fun f2 => ?_)
  refine cj_sat (l' := [(pts b (.cells #[(.map (some mb)), (.int .u64 (tok : Int))] 195 (0, 0))), (mp encS mb (l.map ptrE)), (all lockE l), F]) (sat_sub [1, 2, 3, 4] [0] (by decide +kernel) rfl rfl) ?_
  refine cj_region ?_
  refine oj_v (ov_assign rfl rfl) rfl rfl rfl ?_
  refine oj_nil ?_
  refine xj_then ?_
  refine cj_seq ?_
  refine cj_region ?_
  refine oj_v (ov_assign rfl rfl) rfl rfl rfl ?_
  refine oj_nil ?_
  refine xj_then ?_
  refine cj_seq ?_
  refine cj_seq ?_
  refine cj_region ?_
  refine oj_v (ov_move rfl rfl) rfl rfl rfl ?_
  refine oj_v (ov_nilCheck rfl rfl) rfl rfl rfl ?_
  refine oj_v (ov_fieldAddr rfl rfl T_f195_0) rfl rfl rfl ?_
  refine oj_v (ov_load1 (v := (.map (some mb))) rfl rfl T_o193 (rd_pts (i := 0) rfl rfl)) rfl rfl rfl ?_
  refine oj_e (oe_range (i := 1) (κ := encS) rfl rfl Try.underlying193 rfl) rfl rfl rfl (fun it3 => ?_)
  refine oj_eq (e' := [(9, (.pointer (some ⟨it3, 0, none⟩))), (8, (.map (some mb))), (7, (.pointer (some ⟨b, 0, none⟩))), (6, (.pointer (some ⟨b, 0, none⟩))), (5, (.pointer (some ⟨b, 0, none⟩))), (3, (.slice none 0 0)), (2, (.slice none 0 0)), (0, (.pointer (some ⟨b, 0, none⟩)))]) (l' := [(mpit encS mb it3 (l.map ptrE) (l.map ptrE)), (pts b (.cells #[(.map (some mb)), (.int .u64 (tok : Int))] 195 (0, 0))), (all lockE l), F]) rfl rfl ?_
  refine oj_nil ?_
  refine xj_then ?_
  refine cj_weak (e' := [(9, (.pointer (some ⟨it3, 0, none⟩))), (3, (.slice none 0 0)), (2, (.slice none 0 0))]) (EnvLe.cons rfl (EnvLe.cons rfl (EnvLe.cons rfl (EnvLe.nil _)))) (fun _ h => h) ?_
  refine cj_block ?_
  refine cj_sat (l' := [(sl 9 1 none 0 0 []), (mpit encS mb it3 (l.map ptrE) (l.map ptrE)), (pts b (.cells #[(.map (some mb)), (.int .u64 (tok : Int))] 195 (0, 0))), (all lockE l), F]) (fun _ h => Sat.sl_new h) ?_
  refine cj_eq (l' := [(sl 9 1 none (([] : List Nm).length) 0 (([] : List Nm).flatMap es)), (mpit encS mb it3 (l.map ptrE) (l.map ptrE)), (pts b (.cells #[(.map (some mb)), (.int .u64 (tok : Int))] 195 (0, 0))), (all lockE l), F]) rfl (rfl) ?_
  refine cj_loop (fun x : (List Nm) × (List (Nm × Value)) × (Option Addr) × Nat => [(3, (.slice x.2.2.1 x.1.length x.2.2.2)), (9, (.pointer (some ⟨it3, 0, none⟩)))]) (fun x : (List Nm) × (List (Nm × Value)) × (Option Addr) × Nat => [(fact ((x.1 ++ x.2.1.map (·.1)).Perm ((l.map ptrE).map (·.1)))), (pts b (.cells #[(.map (some mb)), (.int .u64 (tok : Int))] 195 (0, 0))), (mpit encS mb it3 (l.map ptrE) x.2.1), (all lockE l), (sl 9 1 x.2.2.1 x.1.length x.2.2.2 (x.1.flatMap es)), F]) (fun x : (List Nm) × (List (Nm × Value)) × (Option Addr) × Nat => x.2.1.length) ⟨([] : List Nm), (l.map ptrE), none, 0⟩ (EnvLe.cons rfl (EnvLe.cons rfl (EnvLe.nil _))) (fun h hs => Sat.fact_in (by simp) (sat_sub [2, 1, 3, 0, 4] [] (by decide +kernel) rfl rfl h hs)) ?_
  rintro ⟨ks, rem, oa, oc⟩
  refine cj_eq (e' := [(3, (.slice oa ks.length oc)), (9, (.pointer (some ⟨it3, 0, none⟩)))]) (l' := [(fact ((ks ++ rem.map (·.1)).Perm ((l.map ptrE).map (·.1)))), (pts b (.cells #[(.map (some mb)), (.int .u64 (tok : Int))] 195 (0, 0))), (mpit encS mb it3 (l.map ptrE) rem), (all lockE l), (sl 9 1 oa ks.length oc (ks.flatMap es)), F]) rfl rfl ?_
  refine cj_fact (sat_fact 0 rfl) (fun hinv => ?_)
  refine cj_sat (l' := [(pts b (.cells #[(.map (some mb)), (.int .u64 (tok : Int))] 195 (0, 0))), (mpit encS mb it3 (l.map ptrE) rem), (all lockE l), (sl 9 1 oa ks.length oc (ks.flatMap es)), F]) (sat_sub [1, 2, 3, 4, 5] [0] (by decide +kernel) rfl rfl) ?_
  have hlen := hinv.length_eq
  simp only [List.length_append, List.length_map] at hlen
  have hll : l.length = m.length := by rw [← f2]; simp
  refine cj_seq ?_
  refine cj_region ?_
  refine oj_e (oe_next (d := .string) (i := 1) (κ := encS) inferInstance rfl rfl rfl) rfl rfl rfl (fun q4 => ?_)
  rcases q4 with _ | ⟨key5, v6, rem7⟩
  · refine oj_eq (e' := [(10, (.tuple #[(.bool false)])), (3, (.slice oa ks.length oc)), (9, (.pointer (some ⟨it3, 0, none⟩)))]) (l' := [(fact (rem = [])), (mp encS mb (l.map ptrE)), (pts b (.cells #[(.map (some mb)), (.int .u64 (tok : Int))] 195 (0, 0))), (all lockE l), (sl 9 1 oa ks.length oc (ks.flatMap es)), F]) rfl rfl ?_
    refine oj_fact (sat_fact 0 rfl) (fun hr8 => ?_)
    refine oj_sat (l' := [(mp encS mb (l.map ptrE)), (pts b (.cells #[(.map (some mb)), (.int .u64 (tok : Int))] 195 (0, 0))), (all lockE l), (sl 9 1 oa ks.length oc (ks.flatMap es)), F]) (sat_sub [1, 2, 3, 4, 5] [0] (by decide +kernel) rfl rfl) ?_
    refine oj_v (ov_extract rfl rfl rfl) rfl rfl rfl ?_
    refine oj_nil ?_
    refine xj_then ?_
    refine cj_seq ?_
    refine cj_false rfl ?_
    refine cj_exit ?_
    refine xj_then_other (by simp) ?_
    refine xj_round_other (by simp) ?_
    refine xj_block_exit ?_
    refine xj_then ?_
    refine cj_weak (e' := [(3, (.slice oa ks.length oc))]) (EnvLe.cons rfl (EnvLe.nil _)) (fun _ h => h) ?_
    refine cj_seq ?_
    have hks : sortS ks = m.map (·.1) := by
      refine sortS_keys hr ?_
      rw [hr8, List.map_nil, List.append_nil, List.map_map] at hinv
      rw [← f2, List.map_map]; exact hinv
    refine cj_region ?_
    refine oj_v (ov_move rfl rfl) rfl rfl rfl ?_
    refine oj_e (oe_call rfl rfl rfl Try.func201 rfl rfl (rest := [(mp encS mb (l.map ptrE)), (pts b (.cells #[(.map (some mb)), (.int .u64 (tok : Int))] 195 (0, 0))), (all lockE l), F]) (sh_sort oa oc ks (by omega)) (js := [3, 0, 1, 2, 4]) ⟨by decide +kernel, rfl, rfl⟩) rfl rfl rfl (fun _ => ?_)
    refine oj_eq (e' := [(19, (.tuple #[])), (18, (.slice oa ks.length oc)), (3, (.slice oa ks.length oc))]) (l' := [(sl 9 1 oa ((sortS ks).length) oc ((sortS ks).flatMap es)), (mp encS mb (l.map ptrE)), (pts b (.cells #[(.map (some mb)), (.int .u64 (tok : Int))] 195 (0, 0))), (all lockE l), F]) rfl rfl ?_
    refine oj_nil ?_
    refine xj_then ?_
    refine cj_seq ?_
    refine cj_region ?_
    refine oj_v (ov_move rfl rfl) rfl rfl rfl ?_
    refine oj_v (ov_assign rfl rfl) rfl rfl rfl ?_
    refine oj_nil ?_
    refine xj_then ?_
    refine cj_weak (e' := [(2, (.slice oa ks.length oc))]) (EnvLe.cons rfl (EnvLe.nil _)) (fun _ h => h) ?_
    refine cj_ret ?_
    have hkl : ks.length = (m.map (·.1)).length := by rw [← hks, sortS_length]
    refine xj_ret (vs := [(.slice oa ks.length oc)]) (oa, oc) rfl (by rw [hkl]; rfl) ?_
    rw [hks]
    exact fun h hs => (fun h hs => Sat.tail_mono (locks_close f2) hs) h (sat_sub (l' := [(sl 9 1 oa ((m.map (·.1)).length) oc ((m.map (·.1)).flatMap es)), (pts b (.cells #[(.map (some mb)), (.int .u64 (tok : Int))] 195 (0, 0))), (mp encS mb (l.map ptrE)), (all lockE l), F]) [0, 2, 1, 3, 4] [] (by decide +kernel) rfl rfl h hs)
  · refine oj_eq (e' := [(10, (.tuple #[(.bool true), (.string (ba key5)), v6])), (3, (.slice oa ks.length oc)), (9, (.pointer (some ⟨it3, 0, none⟩)))]) (l' := [(fact ((rem).Perm ((key5, v6) :: rem7))), (fact ((key5, v6) ∈ (l.map ptrE))), (mpat encS mb it3 (l.map ptrE) rem7 (.string (ba key5)) v6), (pts b (.cells #[(.map (some mb)), (.int .u64 (tok : Int))] 195 (0, 0))), (all lockE l), (sl 9 1 oa ks.length oc (ks.flatMap es)), F]) rfl rfl ?_
    refine oj_fact (sat_fact 0 rfl) (fun hp9 => ?_)
    refine oj_fact (sat_fact 1 rfl) (fun hm10 => ?_)
    refine oj_sat (l' := [(mpat encS mb it3 (l.map ptrE) rem7 (.string (ba key5)) v6), (pts b (.cells #[(.map (some mb)), (.int .u64 (tok : Int))] 195 (0, 0))), (all lockE l), (sl 9 1 oa ks.length oc (ks.flatMap es)), F]) (sat_sub [2, 3, 4, 5, 6] [0, 1] (by decide +kernel) rfl rfl) ?_
    refine oj_v (ov_extract rfl rfl rfl) rfl rfl rfl ?_
    refine oj_nil ?_
    refine xj_then ?_
    refine cj_seq ?_
    refine cj_true rfl ?_
    refine cj_skip ?_
    refine xj_then ?_
    refine cj_block ?_
    refine cj_seq ?_
    refine cj_region ?_
    refine oj_v (ov_entry (i := 0) rfl rfl rfl) rfl rfl rfl ?_
    refine oj_v (ov_extract rfl rfl rfl) rfl rfl rfl ?_
    refine oj_v (ov_assign rfl rfl) rfl rfl rfl ?_
    refine oj_nil ?_
    refine xj_then ?_
    refine cj_weak (e' := [(4, (.string (ba key5))), (3, (.slice oa ks.length oc)), (9, (.pointer (some ⟨it3, 0, none⟩)))]) (EnvLe.cons rfl (EnvLe.cons rfl (EnvLe.cons rfl (EnvLe.nil _)))) (fun _ h => h) ?_
    refine cj_sat (l' := [(mpit encS mb it3 (l.map ptrE) rem7), (pts b (.cells #[(.map (some mb)), (.int .u64 (tok : Int))] 195 (0, 0))), (all lockE l), (sl 9 1 oa ks.length oc (ks.flatMap es)), F]) (sat_turn 0 rfl mpit_of_mpat) ?_
    refine cj_region ?_
    refine oj_v (ov_move rfl rfl) rfl rfl rfl ?_
    refine oj_v (ov_move rfl rfl) rfl rfl rfl ?_
    refine oj_e (oe_buildSlice (cells := #[(.string (ba key5))]) rfl T_e156 T_z9 rfl rfl rfl rfl) rfl rfl rfl (fun b11 => ?_)
    refine oj_eq (e' := [(16, (.slice (some ⟨b11, 0, none⟩) 1 1)), (15, (.string (ba key5))), (14, (.slice oa ks.length oc)), (4, (.string (ba key5))), (3, (.slice oa ks.length oc)), (9, (.pointer (some ⟨it3, 0, none⟩)))]) (l' := [(pts b11 (.cells #[(.string (ba key5))] 9 (0, 0))), (mpit encS mb it3 (l.map ptrE) rem7), (pts b (.cells #[(.map (some mb)), (.int .u64 (tok : Int))] 195 (0, 0))), (all lockE l), (sl 9 1 oa ks.length oc (ks.flatMap es)), F]) rfl rfl ?_
    refine oj_e (oe_append (i := 4) (news := [(.string (ba key5))]) rfl T_e156 rfl rfl rfl rfl (fun _ h => cells_of_pts (i := 0) rfl rfl h) (by simp [Value.oneCell']) (by unfold maxLen; omega) (by omega)) rfl rfl rfl (fun q12 => ?_)
    refine oj_eq (e' := [(17, (.slice q12.1 (ks.length + 1) q12.2)), (16, (.slice (some ⟨b11, 0, none⟩) 1 1)), (15, (.string (ba key5))), (14, (.slice oa ks.length oc)), (4, (.string (ba key5))), (3, (.slice oa ks.length oc)), (9, (.pointer (some ⟨it3, 0, none⟩)))]) (l' := [(sl 9 1 q12.1 (ks.length + 1) q12.2 ((ks.flatMap es) ++ [(.string (ba key5))])), (pts b11 (.cells #[(.string (ba key5))] 9 (0, 0))), (mpit encS mb it3 (l.map ptrE) rem7), (pts b (.cells #[(.map (some mb)), (.int .u64 (tok : Int))] 195 (0, 0))), (all lockE l), F]) rfl rfl ?_
    obtain ⟨qa, qc⟩ := q12
    refine oj_eq (e' := [(17, (.slice qa (ks.length + 1) qc)), (16, (.slice (some ⟨b11, 0, none⟩) 1 1)), (15, (.string (ba key5))), (14, (.slice oa ks.length oc)), (4, (.string (ba key5))), (3, (.slice oa ks.length oc)), (9, (.pointer (some ⟨it3, 0, none⟩)))]) (l' := [(sl 9 1 qa (ks.length + 1) qc ((ks.flatMap es) ++ [(.string (ba key5))])), (pts b11 (.cells #[(.string (ba key5))] 9 (0, 0))), (mpit encS mb it3 (l.map ptrE) rem7), (pts b (.cells #[(.map (some mb)), (.int .u64 (tok : Int))] 195 (0, 0))), (all lockE l), F]) rfl rfl ?_
    refine oj_eq (e' := [(17, (.slice qa ((ks ++ [key5]).length) qc)), (16, (.slice (some ⟨b11, 0, none⟩) 1 1)), (15, (.string (ba key5))), (14, (.slice oa ks.length oc)), (4, (.string (ba key5))), (3, (.slice oa ks.length oc)), (9, (.pointer (some ⟨it3, 0, none⟩)))]) (l' := [(sl 9 1 qa ((ks ++ [key5]).length) qc ((ks ++ [key5]).flatMap es)), (pts b11 (.cells #[(.string (ba key5))] 9 (0, 0))), (mpit encS mb it3 (l.map ptrE) rem7), (pts b (.cells #[(.map (some mb)), (.int .u64 (tok : Int))] 195 (0, 0))), (all lockE l), F]) (by simp) (by simp [es, encS]) ?_
    refine oj_v (ov_assign rfl rfl) rfl rfl rfl ?_
    refine oj_nil ?_
    refine xj_block_normal ?_
    exact xj_round ⟨(ks ++ [key5]), rem7, qa, qc⟩ (by have := hp9.length_eq; simp only [List.length_cons] at this; dsimp only; omega) (EnvLe.cons rfl (EnvLe.cons rfl (EnvLe.nil _))) (fun h hs => Sat.fact_in (names_step hinv hp9) (sat_sub [3, 2, 4, 0, 5] [1] (by decide +kernel) rfl rfl h hs))

set_option maxRecDepth 100000 in
set_option maxHeartbeats 8000000 in
theorem lk_join (vb : Nat) (a1 a2 : Option Addr) (c1 c2 : Nat) (r1 r2 : List Rp) (hl : r1.length + r2.length ≤ 1073741824) : Spec Try.prog 127 [(.slice (some ⟨vb, 0, none⟩) 2 2)] [(pts vb (.cells #[(.slice a1 r1.length c1), (.slice a2 r2.length c2)] 85 (0, 0))), (sl 56 5 a1 r1.length c1 (r1.flatMap encR)), (sl 56 5 a2 r2.length c2 (r2.flatMap encR))] (fun x : Option Addr × Nat => .slice x.1 (r1 ++ r2).length x.2) (fun x : Option Addr × Nat => [(sl 56 5 x.1 ((r1 ++ r2).length) x.2 ((r1 ++ r2).flatMap encR))]) := by
  refine spec_of (fn := Try.f127) Try.func127 rfl rfl rfl fun F s => ?_
  show CJ _ _ _ _ _ [(0, (.slice (some ⟨vb, 0, none⟩) 2 2))] [(pts vb (.cells #[(.slice a1 r1.length c1), (.slice a2 r2.length c2)] 85 (0, 0))), (sl 56 5 a1 r1.length c1 (r1.flatMap encR)), (sl 56 5 a2 r2.length c2 (r2.flatMap encR)), F]
  refine cj_seq ?_
  refine cj_region ?_
  refine oj_v (ov_assign rfl rfl) rfl rfl rfl ?_
  refine oj_nil ?_
  refine xj_then ?_
  refine cj_seq ?_
  refine cj_region ?_
  refine oj_v (ov_assign rfl rfl) rfl rfl rfl ?_
  refine oj_nil ?_
  refine xj_then ?_
  refine cj_seq ?_
  refine cj_seq ?_
  refine cj_region ?_
  refine oj_v (ov_move rfl rfl) rfl rfl rfl ?_
  refine oj_v (ov_lenL rfl rfl rfl Try.underlying296) rfl rfl rfl ?_
  refine oj_v (ov_move rfl rfl) rfl rfl rfl ?_
  refine oj_nil ?_
  refine xj_then ?_
  refine cj_block ?_
  refine cj_sat (l' := [(sl 56 5 none 0 0 []), (pts vb (.cells #[(.slice a1 r1.length c1), (.slice a2 r2.length c2)] 85 (0, 0))), (sl 56 5 a1 r1.length c1 (r1.flatMap encR)), (sl 56 5 a2 r2.length c2 (r2.flatMap encR)), F]) (fun _ h => Sat.sl_new h) ?_
  refine cj_eq (l' := [(sl 56 5 none (([] : List Rp).length) 0 (([] : List Rp).flatMap encR)), (pts vb (.cells #[(.slice a1 r1.length c1), (.slice a2 r2.length c2)] 85 (0, 0))), (sl 56 5 a1 r1.length c1 (r1.flatMap encR)), (sl 56 5 a2 r2.length c2 (r2.flatMap encR)), F]) rfl (rfl) ?_
  refine cj_loop (fun x : Nat × (List Rp) × (Option Addr) × Nat => [(3, (.slice x.2.2.1 x.2.1.length x.2.2.2)), (6, (.slice (some ⟨vb, 0, none⟩) 2 2)), (7, (.int .i64 2)), (8, (.int .i64 (x.1 : Int)))]) (fun x : Nat × (List Rp) × (Option Addr) × Nat => [(fact ((x.1 = 0 ∧ x.2.1 = []) ∨ (x.1 = 1 ∧ x.2.1 = r1) ∨ (x.1 = 2 ∧ x.2.1 = r1 ++ r2))), (pts vb (.cells #[(.slice a1 r1.length c1), (.slice a2 r2.length c2)] 85 (0, 0))), (sl 56 5 a1 r1.length c1 (r1.flatMap encR)), (sl 56 5 a2 r2.length c2 (r2.flatMap encR)), (sl 56 5 x.2.2.1 x.2.1.length x.2.2.2 (x.2.1.flatMap encR)), F]) (fun x : Nat × (List Rp) × (Option Addr) × Nat => 2 - x.1) ⟨0, ([] : List Rp), none, 0⟩ (EnvLe.cons rfl (EnvLe.cons rfl (EnvLe.cons rfl (EnvLe.cons rfl (EnvLe.nil _))))) (fun h hs => Sat.fact_in (.inl ⟨rfl, rfl⟩) (sat_sub [1, 2, 3, 0, 4] [] (by decide +kernel) rfl rfl h hs)) ?_
  rintro ⟨ki, outx, oa, oc⟩
  refine cj_eq (e' := [(3, (.slice oa outx.length oc)), (6, (.slice (some ⟨vb, 0, none⟩) 2 2)), (7, (.int .i64 2)), (8, (.int .i64 (ki : Int)))]) (l' := [(fact ((ki = 0 ∧ outx = []) ∨ (ki = 1 ∧ outx = r1) ∨ (ki = 2 ∧ outx = r1 ++ r2))), (pts vb (.cells #[(.slice a1 r1.length c1), (.slice a2 r2.length c2)] 85 (0, 0))), (sl 56 5 a1 r1.length c1 (r1.flatMap encR)), (sl 56 5 a2 r2.length c2 (r2.flatMap encR)), (sl 56 5 oa outx.length oc (outx.flatMap encR)), F]) rfl rfl ?_
  refine cj_fact (sat_fact 0 rfl) (fun hinv => ?_)
  refine cj_sat (l' := [(pts vb (.cells #[(.slice a1 r1.length c1), (.slice a2 r2.length c2)] 85 (0, 0))), (sl 56 5 a1 r1.length c1 (r1.flatMap encR)), (sl 56 5 a2 r2.length c2 (r2.flatMap encR)), (sl 56 5 oa outx.length oc (outx.flatMap encR)), F]) (sat_sub [1, 2, 3, 4, 5] [0] (by decide +kernel) rfl rfl) ?_
  rcases hinv with ⟨hk, ho⟩ | ⟨hk, ho⟩ | ⟨hk, ho⟩
  · subst hk
    refine cj_eq (e' := [(3, (.slice oa (([] : List Rp).length) oc)), (6, (.slice (some ⟨vb, 0, none⟩) 2 2)), (7, (.int .i64 2)), (8, (.int .i64 (0 : Int)))]) (l' := [(pts vb (.cells #[(.slice a1 r1.length c1), (.slice a2 r2.length c2)] 85 (0, 0))), (sl 56 5 a1 r1.length c1 (r1.flatMap encR)), (sl 56 5 a2 r2.length c2 (r2.flatMap encR)), (sl 56 5 oa (([] : List Rp).length) oc (([] : List Rp).flatMap encR)), F]) (by rw [ho]; try rfl) (by rw [ho]; try rfl) ?_
    refine cj_eq (e' := [(3, (.slice oa 0 oc)), (6, (.slice (some ⟨vb, 0, none⟩) 2 2)), (7, (.int .i64 2)), (8, (.int .i64 (0 : Int)))]) (l' := [(pts vb (.cells #[(.slice a1 r1.length c1), (.slice a2 r2.length c2)] 85 (0, 0))), (sl 56 5 a1 r1.length c1 (r1.flatMap encR)), (sl 56 5 a2 r2.length c2 (r2.flatMap encR)), (sl 56 5 oa 0 oc []), F]) (rfl) (rfl) ?_
    refine cj_seq ?_
    refine cj_region ?_
    refine oj_v (ov_lss rfl rfl rfl) rfl rfl rfl ?_
    refine oj_head (v' := (.bool true)) (rfl) ?_
    refine oj_nil ?_
    refine xj_then ?_
    refine cj_seq ?_
    refine cj_true rfl ?_
    refine cj_skip ?_
    refine xj_then ?_
    refine cj_seq ?_
    refine cj_block ?_
    refine cj_seq ?_
    refine cj_region ?_
    refine oj_v (ov_indexAddr0 (j := 0) rfl rfl rfl Try.underlying296 T_s85 (by omega) (by omega)) rfl rfl rfl ?_
    refine oj_v (ov_load1 (v := (.slice a1 r1.length c1)) rfl rfl T_o85 (rd_pts (i := 0) rfl rfl)) rfl rfl rfl ?_
    refine oj_v (ov_assign rfl rfl) rfl rfl rfl ?_
    refine oj_nil ?_
    refine xj_then ?_
    refine cj_weak (e' := [(5, (.slice a1 r1.length c1)), (3, (.slice oa 0 oc)), (6, (.slice (some ⟨vb, 0, none⟩) 2 2)), (7, (.int .i64 2)), (8, (.int .i64 (0 : Int)))]) (EnvLe.cons rfl (EnvLe.cons rfl (EnvLe.cons rfl (EnvLe.cons rfl (EnvLe.cons rfl (EnvLe.nil _)))))) (fun _ h => h) ?_
    refine cj_region ?_
    refine oj_v (ov_move rfl rfl) rfl rfl rfl ?_
    refine oj_v (ov_move rfl rfl) rfl rfl rfl ?_
    refine oj_e (oe_appendL (i := 3) (k := 5) rfl T_e85 rfl rfl rfl (shows_sl (i := 1) (by rw [flat_len encR_len] <;> first | rfl | omega) rfl) (one_flat encR_one _) (by unfold maxLen; omega) (by omega)) rfl rfl rfl (fun q1 => ?_)
    refine oj_eq (e' := [(14, (.slice q1.1 (0 + r1.length) q1.2)), (13, (.slice a1 r1.length c1)), (12, (.slice oa 0 oc)), (5, (.slice a1 r1.length c1)), (3, (.slice oa 0 oc)), (6, (.slice (some ⟨vb, 0, none⟩) 2 2)), (7, (.int .i64 2)), (8, (.int .i64 (0 : Int)))]) (l' := [(sl 56 5 q1.1 (0 + r1.length) q1.2 ([] ++ (r1.flatMap encR))), (pts vb (.cells #[(.slice a1 r1.length c1), (.slice a2 r2.length c2)] 85 (0, 0))), (sl 56 5 a1 r1.length c1 (r1.flatMap encR)), (sl 56 5 a2 r2.length c2 (r2.flatMap encR)), F]) rfl rfl ?_
    obtain ⟨qa, qc⟩ := q1
    refine oj_eq (e' := [(14, (.slice qa (0 + r1.length) qc)), (13, (.slice a1 r1.length c1)), (12, (.slice oa 0 oc)), (5, (.slice a1 r1.length c1)), (3, (.slice oa 0 oc)), (6, (.slice (some ⟨vb, 0, none⟩) 2 2)), (7, (.int .i64 2)), (8, (.int .i64 (0 : Int)))]) (l' := [(sl 56 5 qa (0 + r1.length) qc ([] ++ (r1.flatMap encR))), (pts vb (.cells #[(.slice a1 r1.length c1), (.slice a2 r2.length c2)] 85 (0, 0))), (sl 56 5 a1 r1.length c1 (r1.flatMap encR)), (sl 56 5 a2 r2.length c2 (r2.flatMap encR)), F]) rfl rfl ?_
    refine oj_eq (e' := [(14, (.slice qa r1.length qc)), (13, (.slice a1 r1.length c1)), (12, (.slice oa 0 oc)), (5, (.slice a1 r1.length c1)), (3, (.slice oa 0 oc)), (6, (.slice (some ⟨vb, 0, none⟩) 2 2)), (7, (.int .i64 2)), (8, (.int .i64 (0 : Int)))]) (l' := [(sl 56 5 qa r1.length qc (r1.flatMap encR)), (pts vb (.cells #[(.slice a1 r1.length c1), (.slice a2 r2.length c2)] 85 (0, 0))), (sl 56 5 a1 r1.length c1 (r1.flatMap encR)), (sl 56 5 a2 r2.length c2 (r2.flatMap encR)), F]) (by simp) (by simp) ?_
    refine oj_v (ov_assign rfl rfl) rfl rfl rfl ?_
    refine oj_nil ?_
    refine xj_block_normal ?_
    refine xj_then ?_
    refine cj_weak (e' := [(3, (.slice qa r1.length qc)), (6, (.slice (some ⟨vb, 0, none⟩) 2 2)), (7, (.int .i64 2)), (8, (.int .i64 (0 : Int)))]) (EnvLe.cons rfl (EnvLe.cons rfl (EnvLe.cons rfl (EnvLe.cons rfl (EnvLe.nil _))))) (fun _ h => h) ?_
    refine cj_region ?_
    refine oj_v (ov_add rfl rfl rfl (by omega)) rfl rfl rfl ?_
    refine oj_v (ov_move rfl rfl) rfl rfl rfl ?_
    refine oj_nil ?_
    exact xj_round ⟨1, r1, qa, qc⟩ (by dsimp only; omega) (EnvLe.cons rfl (EnvLe.cons rfl (EnvLe.cons rfl (EnvLe.cons rfl (EnvLe.nil _))))) (fun h hs => Sat.fact_in (.inr (.inl ⟨rfl, rfl⟩)) (sat_sub [1, 2, 3, 0, 4] [] (by decide +kernel) rfl rfl h hs))
  · subst hk
    refine cj_eq (e' := [(3, (.slice oa r1.length oc)), (6, (.slice (some ⟨vb, 0, none⟩) 2 2)), (7, (.int .i64 2)), (8, (.int .i64 (1 : Int)))]) (l' := [(pts vb (.cells #[(.slice a1 r1.length c1), (.slice a2 r2.length c2)] 85 (0, 0))), (sl 56 5 a1 r1.length c1 (r1.flatMap encR)), (sl 56 5 a2 r2.length c2 (r2.flatMap encR)), (sl 56 5 oa r1.length oc (r1.flatMap encR)), F]) (by rw [ho]; try rfl) (by rw [ho]; try rfl) ?_
    refine cj_seq ?_
    refine cj_region ?_
    refine oj_v (ov_lss rfl rfl rfl) rfl rfl rfl ?_
    refine oj_head (v' := (.bool true)) (rfl) ?_
    refine oj_nil ?_
    refine xj_then ?_
    refine cj_seq ?_
    refine cj_true rfl ?_
    refine cj_skip ?_
    refine xj_then ?_
    refine cj_seq ?_
    refine cj_block ?_
    refine cj_seq ?_
    refine cj_region ?_
    refine oj_v (ov_indexAddr0 (j := 1) rfl rfl rfl Try.underlying296 T_s85 (by omega) (by omega)) rfl rfl rfl ?_
    refine oj_v (ov_load1 (v := (.slice a2 r2.length c2)) rfl rfl T_o85 (rd_pts (i := 0) rfl rfl)) rfl rfl rfl ?_
    refine oj_v (ov_assign rfl rfl) rfl rfl rfl ?_
    refine oj_nil ?_
    refine xj_then ?_
    refine cj_weak (e' := [(5, (.slice a2 r2.length c2)), (3, (.slice oa r1.length oc)), (6, (.slice (some ⟨vb, 0, none⟩) 2 2)), (7, (.int .i64 2)), (8, (.int .i64 (1 : Int)))]) (EnvLe.cons rfl (EnvLe.cons rfl (EnvLe.cons rfl (EnvLe.cons rfl (EnvLe.cons rfl (EnvLe.nil _)))))) (fun _ h => h) ?_
    refine cj_region ?_
    refine oj_v (ov_move rfl rfl) rfl rfl rfl ?_
    refine oj_v (ov_move rfl rfl) rfl rfl rfl ?_
    refine oj_e (oe_appendL (i := 3) (k := 5) rfl T_e85 rfl rfl rfl (shows_sl (i := 2) (by rw [flat_len encR_len] <;> first | rfl | omega) rfl) (one_flat encR_one _) (by unfold maxLen; omega) (by omega)) rfl rfl rfl (fun q2 => ?_)
    refine oj_eq (e' := [(14, (.slice q2.1 (r1.length + r2.length) q2.2)), (13, (.slice a2 r2.length c2)), (12, (.slice oa r1.length oc)), (5, (.slice a2 r2.length c2)), (3, (.slice oa r1.length oc)), (6, (.slice (some ⟨vb, 0, none⟩) 2 2)), (7, (.int .i64 2)), (8, (.int .i64 (1 : Int)))]) (l' := [(sl 56 5 q2.1 (r1.length + r2.length) q2.2 ((r1.flatMap encR) ++ (r2.flatMap encR))), (pts vb (.cells #[(.slice a1 r1.length c1), (.slice a2 r2.length c2)] 85 (0, 0))), (sl 56 5 a1 r1.length c1 (r1.flatMap encR)), (sl 56 5 a2 r2.length c2 (r2.flatMap encR)), F]) rfl rfl ?_
    obtain ⟨qa, qc⟩ := q2
    refine oj_eq (e' := [(14, (.slice qa (r1.length + r2.length) qc)), (13, (.slice a2 r2.length c2)), (12, (.slice oa r1.length oc)), (5, (.slice a2 r2.length c2)), (3, (.slice oa r1.length oc)), (6, (.slice (some ⟨vb, 0, none⟩) 2 2)), (7, (.int .i64 2)), (8, (.int .i64 (1 : Int)))]) (l' := [(sl 56 5 qa (r1.length + r2.length) qc ((r1.flatMap encR) ++ (r2.flatMap encR))), (pts vb (.cells #[(.slice a1 r1.length c1), (.slice a2 r2.length c2)] 85 (0, 0))), (sl 56 5 a1 r1.length c1 (r1.flatMap encR)), (sl 56 5 a2 r2.length c2 (r2.flatMap encR)), F]) rfl rfl ?_
    refine oj_eq (e' := [(14, (.slice qa ((r1 ++ r2).length) qc)), (13, (.slice a2 r2.length c2)), (12, (.slice oa r1.length oc)), (5, (.slice a2 r2.length c2)), (3, (.slice oa r1.length oc)), (6, (.slice (some ⟨vb, 0, none⟩) 2 2)), (7, (.int .i64 2)), (8, (.int .i64 (1 : Int)))]) (l' := [(sl 56 5 qa ((r1 ++ r2).length) qc ((r1 ++ r2).flatMap encR)), (pts vb (.cells #[(.slice a1 r1.length c1), (.slice a2 r2.length c2)] 85 (0, 0))), (sl 56 5 a1 r1.length c1 (r1.flatMap encR)), (sl 56 5 a2 r2.length c2 (r2.flatMap encR)), F]) (by simp) (by simp) ?_
    refine oj_v (ov_assign rfl rfl) rfl rfl rfl ?_
    refine oj_nil ?_
    refine xj_block_normal ?_
    refine xj_then ?_
    refine cj_weak (e' := [(3, (.slice qa ((r1 ++ r2).length) qc)), (6, (.slice (some ⟨vb, 0, none⟩) 2 2)), (7, (.int .i64 2)), (8, (.int .i64 (1 : Int)))]) (EnvLe.cons rfl (EnvLe.cons rfl (EnvLe.cons rfl (EnvLe.cons rfl (EnvLe.nil _))))) (fun _ h => h) ?_
    refine cj_region ?_
    refine oj_v (ov_add rfl rfl rfl (by omega)) rfl rfl rfl ?_
    refine oj_v (ov_move rfl rfl) rfl rfl rfl ?_
    refine oj_nil ?_
    exact xj_round ⟨2, (r1 ++ r2), qa, qc⟩ (by dsimp only; omega) (EnvLe.cons rfl (EnvLe.cons rfl (EnvLe.cons rfl (EnvLe.cons rfl (EnvLe.nil _))))) (fun h hs => Sat.fact_in (.inr (.inr ⟨rfl, rfl⟩)) (sat_sub [1, 2, 3, 0, 4] [] (by decide +kernel) rfl rfl h hs))
  · subst hk
    refine cj_eq (e' := [(3, (.slice oa ((r1 ++ r2).length) oc)), (6, (.slice (some ⟨vb, 0, none⟩) 2 2)), (7, (.int .i64 2)), (8, (.int .i64 (2 : Int)))]) (l' := [(pts vb (.cells #[(.slice a1 r1.length c1), (.slice a2 r2.length c2)] 85 (0, 0))), (sl 56 5 a1 r1.length c1 (r1.flatMap encR)), (sl 56 5 a2 r2.length c2 (r2.flatMap encR)), (sl 56 5 oa ((r1 ++ r2).length) oc ((r1 ++ r2).flatMap encR)), F]) (by rw [ho]; try rfl) (by rw [ho]; try rfl) ?_
    refine cj_seq ?_
    refine cj_region ?_
    refine oj_v (ov_lss rfl rfl rfl) rfl rfl rfl ?_
    refine oj_head (v' := (.bool false)) (rfl) ?_
    refine oj_nil ?_
    refine xj_then ?_
    refine cj_seq ?_
    refine cj_false rfl ?_
    refine cj_exit ?_
    refine xj_then_other (by simp) ?_
    refine xj_round_other (by simp) ?_
    refine xj_block_exit ?_
    refine xj_then ?_
    refine cj_weak (e' := [(3, (.slice oa ((r1 ++ r2).length) oc))]) (EnvLe.cons rfl (EnvLe.nil _)) (fun _ h => h) ?_
    refine cj_seq ?_
    refine cj_region ?_
    refine oj_v (ov_move rfl rfl) rfl rfl rfl ?_
    refine oj_v (ov_assign rfl rfl) rfl rfl rfl ?_
    refine oj_nil ?_
    refine xj_then ?_
    refine cj_ret ?_
    refine xj_ret (vs := [(.slice oa ((r1 ++ r2).length) oc)]) (oa, oc) rfl rfl ?_
    exact sat_sub [3, 4] [0, 1, 2] (by decide +kernel) rfl rfl

end Go.Proofs.Ytbjdadekheoebaa
