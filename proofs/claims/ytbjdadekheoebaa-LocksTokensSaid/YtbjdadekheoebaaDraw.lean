/- A stretch of operations whose order is open: what only reads is taken first, as long as the parts it reads stay; what writes comes when nothing else can. It speaks of no program. -/
import Derived.Test.YtbjdadekheoebaaOps2
set_option linter.all false
set_option linter.unusedVariables false
set_option linter.unusedSimpArgs false
set_option linter.unusedSectionVars false
set_option linter.unnecessarySimpa false
namespace Go.Proofs.Ytbjdadekheoebaa

section
variable {P : Program} {ops : Array Oper} {Q : Exit → Act → World → Prop} {S : World → Prop} {bar : List Nat}

/-- Whatever order is picked from here on; S holds behind every operation, but for those of bar. -/
def wpAnyB (P : Program) (ops : Array Oper) (Q : Exit → Act → World → Prop) (S : World → Prop) (bar : List Nat) : Nat → Array Bool → Act → World → Prop
  | 0, listed, a, w => Region.ready .any ops listed = [] ∧ Q .normal a w
  | fuel + 1, listed, a, w =>
    (Region.ready .any ops listed = [] → Q .normal a w) ∧
    ∀ i ∈ Region.ready .any ops listed, wpOp P ops Q i (fun a' w' => (bar.contains i = true ∨ S w') ∧ wpAnyB P ops Q S bar fuel (listed.setIfInBounds i true) a' w') a w

theorem wpAny_of_bar : ∀ (fuel : Nat) (listed : Array Bool) (a : Act) (w : World), wpAnyB P ops Q S bar fuel listed a w → wpAny P .any ops Q fuel listed a w
  | 0, _, _, _, h => h
  | fuel + 1, _, _, _, h => ⟨h.1, fun i hi => wpOp_mono (fun a' w' h' => wpAny_of_bar fuel _ a' w' h'.2) (h.2 i hi)⟩

/-- Each operation of bar waits for number i itself. -/
def barOk (ops : Array Oper) (bar : List Nat) (i : Nat) : Bool :=
  bar.all fun j => match ops[j]? with
    | some o => o.after.any fun e => Region.binds .any e && e.on == i
    | none => true

theorem wpAnyB_first {i : Nat} {oi : Oper} {v : Value} (hi : ops[i]? = some oi) (hsel : ∀ (j : Nat) (o : Oper) cs b, ops[j]? = some o → o.op ≠ .select cs b)
    (hQ : ∀ c a w, ¬ Q (.panic c) a w) (hbar : barOk ops bar i = true) :
    ∀ (fuel : Nat) (listed : Array Bool) (a : Act) (w : World),
      (∀ j oj, ops[j]? = some oj → j ≠ i → listed.getD j true = false → (∀ e ∈ oj.after, Region.binds .any e = true → e.on ≠ i) → oi.apart ops oj = true) →
      i ∈ Region.ready .any ops listed → YieldsIf P ops S oi v a → S w →
      wpAnyB P ops Q S bar fuel (listed.setIfInBounds i true) (a.put oi.dst v) w → wpAnyB P ops Q S bar (fuel + 1) listed a w := by
  intro fuel
  induction fuel with
  | zero =>
    intro listed a w _ hr hy hS H
    refine ⟨fun h => (by rw [h] at hr; cases hr), fun j hj => ?_⟩
    by_cases hji : j = i
    · subst hji; exact hy.wpOp hi hS ⟨.inr hS, H⟩
    · have := ready_mono hj hji
      rw [H.1] at this
      cases this
  | succ fuel ih =>
    intro listed a w hfree hr hy hS H
    refine ⟨fun h => (by rw [h] at hr; cases hr), fun j hj => ?_⟩
    by_cases hji : j = i
    · subst hji; exact hy.wpOp hi hS ⟨.inr hS, H⟩
    · have h1 := H.2 j (ready_mono hj hji)
      obtain ⟨hjun, oj, hoj, hall⟩ := mem_ready.1 hj
      have hnot : ∀ e ∈ oj.after, Region.binds .any e = true → e.on ≠ i := fun e he hb heq => by
        have h1 := hall e he hb
        have h0 := (mem_ready.1 hr).1
        rw [heq] at h1
        rcases Nat.lt_or_ge i listed.size with h' | h'
        · simp [h'] at h0 h1; rw [h0] at h1; cases h1
        · simp [Array.getElem?_eq_none h'] at h1
      have hnb : bar.contains j = false := by
        cases hb : bar.contains j with
        | false => rfl
        | true =>
          have h2 := (List.all_eq_true.1 hbar) j (by simpa using hb)
          rw [hoj] at h2
          simp only [Array.any_eq_true'] at h2
          obtain ⟨e, he, h3⟩ := h2
          simp only [Bool.and_eq_true, beq_iff_eq] at h3
          exact absurd h3.2 (hnot e he h3.1)
      have h2 := wpOp_putIf hoj (hfree j oj hoj hji hjun hnot) (fun cs b => hsel i oi cs b hi) (fun cs b => hsel j oj cs b hoj) (fun c a w h => absurd h (hQ _ _ _)) hy h1
      have hfree' : ∀ k ok, ops[k]? = some ok → k ≠ i → (listed.setIfInBounds j true).getD k true = false →
          (∀ e ∈ ok.after, Region.binds .any e = true → e.on ≠ i) → oi.apart ops ok = true := fun k ok hk hki hun hno => by
        refine hfree k ok hk hki ?_ hno
        by_cases hjk : j = k
        · subst hjk; exact hjun
        · rw [getD_set_ne true hjk] at hun; exact hun
      refine wpOp_mono (fun a' w' h3 => ?_) h2
      have hS' : S w' := h3.2.1.resolve_left (by rw [hnb]; simp)
      refine ⟨.inr hS', ih (listed.setIfInBounds j true) a' w' hfree' (ready_mono hr (Ne.symm hji)) h3.1 hS' ?_⟩
      rw [Array.setIfInBounds_comm _ _ hji]
      exact h3.2.2

section
variable {s : World} {n : Nat}
/-! ### no panic leaves -/
def NP (Q : Exit → Act → World → Prop) : Prop := ∀ c a w, ¬ Q (.panic c) a w
theorem np_then {K : Act → World → Prop} {Q : Exit → Act → World → Prop} (h : NP Q) : NP (Exit.then K Q) := h
theorem np_meet {α : Type} {E : α → Env} {C : α → List HP} {Q : Exit → Act → World → Prop} (h : NP Q) : NP (Meet s n E C Q) := h
theorem np_round {α : Type} {E : α → Env} {C : α → List HP} {μ : α → Nat} {m : Nat} {Q : Exit → Act → World → Prop} (h : NP Q) : NP (Round s n E C μ m Q) := h
theorem np_block {id : Nat} {Q : Exit → Act → World → Prop} (h : NP Q) : NP (Exit.inBlock id Q) := h
theorem np_pass {e' : Env} {l' : List HP} : NP (Pass s n e' l') := fun _ _ _ h => by cases h.1
theorem np_body {α : Type} {fn : Func} {V : α → Value} {C : α → List HP} {F : HP} : NP (bodyPost P fn (fun e w' => ∃ x, e = .returned (V x) ∧ St s (C x ++ [F]) w')) := fun _ _ _ h => by
  obtain ⟨_, x, hx, _⟩ := h; cases hx

end

/-! ### the same, in slots and parts -/
def AJ (P : Program) (s : World) (ops : Array Oper) (Q : Exit → Act → World → Prop) (lS : List HP) (bar : List Nat) (fuel : Nat) (listed : Array Bool) (n : Nat) (e : Env) (l : List HP) : Prop :=
  ∀ a w, Fr n e a → St s l w → wpAnyB P ops Q (fun w => Sat lS (hl w)) bar fuel listed a w

variable {s : World} {n : Nat} {e : Env} {l lS : List HP} {fuel : Nat} {listed : Array Bool}

theorem cj_draw {id : Nat} {os : List Oper} {e : Env} {l : List HP} (lS : List HP) (bar : List Nat) (hm : P.follows .mixedOrders = true) (h : AJ P s os.toArray Q lS bar os.length (Array.replicate os.length false) n e l) : CJ P s (.region id os.toArray true) Q n e l :=
  fun a w hf hw => wp_region_any hm (wpAny_of_bar _ _ _ _ (by simpa using h a w.drew hf hw.drew))

/-- the side conditions of a taking, in one Bool -/
def takeOk (ops : Array Oper) (bar : List Nat) (listed : Array Bool) (i : Nat) : Bool :=
  Region.noSelect ops && Region.free .any ops listed i && (Region.ready .any ops listed).contains i && barOk ops bar i

theorem aj_v {i d : Nat} {o : Oper} {v : Value} (ho : ops[i]? = some o) (ht : takeOk ops bar listed i = true) (hQ : NP Q) (hv : OpV P n o e lS v) (hg : gok ops e o = some true) (hd : o.dst = some d) (hn : Nat.blt d n = true)
    (hS : ∀ h, Sat l h → Sat lS h) (k : AJ P s ops Q lS bar fuel (listed.setIfInBounds i true) n ((d, v) :: e) l) : AJ P s ops Q lS bar (fuel + 1) listed n e l := fun a w hf hw => by
  simp only [takeOk, Bool.and_eq_true] at ht
  obtain ⟨⟨⟨h1, h2⟩, h3⟩, h4⟩ := ht
  refine wpAnyB_first ho (Region.noSelect_spec h1) hQ h4 fuel listed a w (Region.free_spec ho h2) (by simpa using h3) (v := v) (.inl ⟨gok_spec hf hg, fun w' hw' => hv a w' hf hw'⟩) (hS _ hw.sat) ?_
  refine k _ _ ?_ hw
  rw [hd]; exact hf.put (by simpa using hn) v

theorem aj_skip {i d : Nat} {o : Oper} (ho : ops[i]? = some o) (ht : takeOk ops bar listed i = true) (hQ : NP Q) (hg : gok ops e o = some false) (hd : o.dst = some d) (hn : Nat.blt d n = true)
    (hS : ∀ h, Sat l h → Sat lS h) (k : AJ P s ops Q lS bar fuel (listed.setIfInBounds i true) n ((d, undef) :: e) l) : AJ P s ops Q lS bar (fuel + 1) listed n e l := fun a w hf hw => by
  simp only [takeOk, Bool.and_eq_true] at ht
  obtain ⟨⟨⟨h1, h2⟩, h3⟩, h4⟩ := ht
  refine wpAnyB_first ho (Region.noSelect_spec h1) hQ h4 fuel listed a w (Region.free_spec ho h2) (by simpa using h3) (v := undef) (.inr ⟨gok_spec hf hg, rfl⟩) (hS _ hw.sat) ?_
  refine k _ _ ?_ hw
  rw [hd]; exact hf.put (by simpa using hn) undef

theorem aj_e {i d : Nat} {o : Oper} {α : Type} {V : α → Value} {C : α → List HP} (ho : ops[i]? = some o) (hr : Region.ready .any ops listed = [i]) (hv : OpE P s n o e l (fun v w' => ∃ x, v = V x ∧ St s (C x) w')) (hg : gok ops e o = some true) (hd : o.dst = some d) (hn : Nat.blt d n = true)
    (hb : bar.contains i = true ∨ ∀ x h, Sat (C x) h → Sat lS h) (k : ∀ x, AJ P s ops Q lS bar fuel (listed.setIfInBounds i true) n ((d, V x) :: e) (C x)) : AJ P s ops Q lS bar (fuel + 1) listed n e l := fun a w hf hw => by
  refine ⟨fun h => absurd (hr ▸ h) (by simp), fun j hj => ?_⟩
  rw [hr] at hj
  obtain rfl : j = i := by simpa using hj
  unfold wpOp
  simp only [ho, gok_spec hf hg, if_true]
  refine .inl (hv a w _ Q hf hw fun v w' ⟨x, hx, hw'⟩ => ?_)
  subst hx
  refine ⟨hb.imp id (fun h => h x _ hw'.sat), k x _ _ ?_ hw'⟩
  rw [hd]; exact hf.put (by simpa using hn) _

theorem aj_e0 {i : Nat} {o : Oper} {α : Type} {V : α → Value} {C : α → List HP} (ho : ops[i]? = some o) (hr : Region.ready .any ops listed = [i]) (hv : OpE P s n o e l (fun v w' => ∃ x, v = V x ∧ St s (C x) w')) (hg : gok ops e o = some true) (hd : o.dst = none)
    (hb : bar.contains i = true ∨ ∀ x h, Sat (C x) h → Sat lS h) (k : ∀ x, AJ P s ops Q lS bar fuel (listed.setIfInBounds i true) n e (C x)) : AJ P s ops Q lS bar (fuel + 1) listed n e l := fun a w hf hw => by
  refine ⟨fun h => absurd (hr ▸ h) (by simp), fun j hj => ?_⟩
  rw [hr] at hj
  obtain rfl : j = i := by simpa using hj
  unfold wpOp
  simp only [ho, gok_spec hf hg, if_true]
  refine .inl (hv a w _ Q hf hw fun v w' ⟨x, hx, hw'⟩ => ?_)
  subst hx
  refine ⟨hb.imp id (fun h => h x _ hw'.sat), k x _ _ ?_ hw'⟩
  rw [hd]; exact hf

theorem aj_nil (hr : Region.ready .any ops listed = []) (h : XJ s Q .normal n e l) : AJ P s ops Q lS bar fuel listed n e l := fun a w hf hw => by
  cases fuel with
  | zero => exact ⟨hr, h a w hf hw⟩
  | succ k => exact ⟨fun _ => h a w hf hw, by rw [hr]; simp⟩

theorem oe_of_v {o : Oper} {v : Value} (hv : OpV P n o e l v) : OpE P s n o e l (fun u w' => ∃ _ : Unit, u = v ∧ St s l w') := oe_ret fun a w hf hw => ⟨w, hv a w hf hw.sat, (), rfl, hw⟩

theorem aj_case {t : Nat} {b : Bool} (ht : b = true → AJ P s ops Q lS bar fuel listed n ((t, .bool true) :: e) l) (hf : b = false → AJ P s ops Q lS bar fuel listed n ((t, .bool false) :: e) l) :
    AJ P s ops Q lS bar fuel listed n ((t, .bool b) :: e) l := by
  cases b
  · exact hf rfl
  · exact ht rfl
theorem aj_head {t : Nat} {v v' : Value} (h : v = v') (k : AJ P s ops Q lS bar fuel listed n ((t, v') :: e) l) : AJ P s ops Q lS bar fuel listed n ((t, v) :: e) l := h ▸ k
theorem aj_eq {e' : Env} {l' : List HP} {listed' : Array Bool} {fuel' : Nat} (he : e = e') (hl : l = l') (hli : listed = listed') (hfu : fuel = fuel') (k : AJ P s ops Q lS bar fuel' listed' n e' l') : AJ P s ops Q lS bar fuel listed n e l := by
  subst he; subst hl; subst hli; subst hfu; exact k
theorem aj_sat {l' : List HP} (hs : ∀ h, Sat l h → Sat l' h) (k : AJ P s ops Q lS bar fuel listed n e l') : AJ P s ops Q lS bar fuel listed n e l := fun a w hf hw => k a w hf (hw.mono (hs _))
theorem aj_out {α : Type} {l' : α → List HP} (hs : ∀ h, Sat l h → ∃ x, Sat (l' x) h) (k : ∀ x, AJ P s ops Q lS bar fuel listed n e (l' x)) : AJ P s ops Q lS bar fuel listed n e l :=
  fun a w hf hw => by obtain ⟨x, hx⟩ := hs _ hw.sat; exact k x a w hf ⟨hx, hw.os, hw.tape, hw.output⟩

/-! ### a stretch that ends at its end alone, with something found on the way -/
def PassX (s : World) (n : Nat) {α : Type} (E : α → Env) (C : α → List HP) : Exit → Act → World → Prop := fun x a w => x = .normal ∧ ∃ y, Fr n (E y) a ∧ St s (C y) w
theorem cj_passx {α : Type} {c : Code} (E : α → Env) (C : α → List HP) (h : CJ P s c (PassX s n E C) n e l) (k : ∀ x, XJ s Q .normal n (E x) (C x)) : CJ P s c Q n e l :=
  fun a w hf hw => wp_mono (h a w hf hw) fun x a' w' ⟨hx, y, h1, h2⟩ => by subst hx; exact k y a' w' h1 h2
theorem xj_passx {α : Type} {E : α → Env} {C : α → List HP} (x : α) (he : EnvLe (E x) e) (hs : ∀ h, Sat l h → Sat (C x) h) : XJ s (PassX s n E C) .normal n e l :=
  fun _ _ hf hw => ⟨rfl, x, hf.weaken he, hw.mono (hs _)⟩
theorem np_passx {α : Type} {E : α → Env} {C : α → List HP} : NP (PassX s n E C) := fun _ _ _ h => by cases h.1


/-! ### a schedule, checked once -/
def nth : List Oper → Nat → Option Oper
  | [], _ => none
  | o :: _, 0 => some o
  | _ :: r, k + 1 => nth r k
theorem nth_eq : ∀ (os : List Oper) (i : Nat), nth os i = os.toArray[i]?
  | [], i => by simp [nth]
  | o :: r, 0 => by simp [nth]
  | o :: r, k + 1 => by simp only [nth, nth_eq r k]; simp
def gokL (os : List Oper) (e : Env) (o : Oper) : Option Bool :=
  match o.guard with
  | none => some true
  | some (g, want) => match (nth os g).bind (·.dst) with
    | some t => match look e t with
      | some (.bool b) => some (b == want)
      | some (.tuple _) => some false
      | _ => none
    | none => none
theorem gokL_eq (os : List Oper) (e : Env) (o : Oper) : gokL os e o = gok os.toArray e o := by
  unfold gokL gok; simp only [nth_eq]; rfl
def schedOk (ops : Array Oper) (bar : List Nat) : Array Bool → List (Nat × Bool) → Bool
  | listed, [] => (Region.ready .any ops listed).isEmpty
  | listed, (i, true) :: r => takeOk ops bar listed i && schedOk ops bar (listed.setIfInBounds i true) r
  | listed, (i, false) :: r => (Region.ready .any ops listed == [i]) && schedOk ops bar (listed.setIfInBounds i true) r
def pickS (os : List Oper) : List (Nat × Bool) → Option (List ((Nat × Bool) × Oper))
  | [] => some []
  | k :: r => match nth os k.1 with
    | some o => match pickS os r with
      | some l => some ((k, o) :: l)
      | none => none
    | none => none
theorem pickS_spec {os : List Oper} : ∀ {sched : List (Nat × Bool)} {sos : List ((Nat × Bool) × Oper)}, pickS os sched = some sos → sos.map (·.1) = sched ∧ ∀ x ∈ sos, os.toArray[x.1.1]? = some x.2
  | [], sos, h => by simp [pickS] at h; subst h; simp
  | k :: r, sos, h => by
    simp only [pickS] at h
    cases h1 : nth os k.1 with
    | none => simp [h1] at h
    | some o =>
      cases h2 : pickS os r with
      | none => simp [h1, h2] at h
      | some l =>
        simp [h1, h2] at h; subst h
        obtain ⟨h3, h4⟩ := pickS_spec h2
        refine ⟨by simp [h3], fun x hx => ?_⟩
        rcases List.mem_cons.1 hx with rfl | hx
        · rw [← nth_eq]; exact h1
        · exact h4 x hx
def DJ (P : Program) (s : World) (os : List Oper) (Q : Exit → Act → World → Prop) (lS : List HP) (bar : List Nat) (sos : List ((Nat × Bool) × Oper)) (n : Nat) (e : Env) (l : List HP) : Prop :=
  ∀ listed, schedOk os.toArray bar listed (sos.map (·.1)) = true → (∀ x ∈ sos, os.toArray[x.1.1]? = some x.2) → AJ P s os.toArray Q lS bar sos.length listed n e l
variable {os : List Oper} {sos : List ((Nat × Bool) × Oper)}
theorem cj_sched {id : Nat} (lS : List HP) (bar : List Nat) (sched : List (Nat × Bool)) (hm : P.follows .mixedOrders = true) (hok : (Nat.beq sched.length os.length && schedOk os.toArray bar (Array.replicate os.length false) sched) = true) (hp : pickS os sched = some sos)
    (h : DJ P s os Q lS bar sos n e l) : CJ P s (.region id os.toArray true) Q n e l := by
  simp only [Bool.and_eq_true] at hok
  obtain ⟨h1, h2⟩ := pickS_spec hp
  refine cj_draw lS bar hm ?_
  have h3 : sos.length = os.length := by
    rw [← Nat.eq_of_beq_eq_true hok.1, ← h1]; simp
  rw [← h3]
  exact h _ (by rw [h1, h3]; exact hok.2) h2
theorem dj_v {i d : Nat} {o : Oper} {v : Value} (hQ : NP Q) (hv : OpV P n o e lS v) (hg : gokL os e o = some true) (hd : o.dst = some d) (hn : Nat.blt d n = true)
    (hS : ∀ h, Sat l h → Sat lS h) (k : DJ P s os Q lS bar sos n ((d, v) :: e) l) : DJ P s os Q lS bar (((i, true), o) :: sos) n e l := fun listed hok hall => by
  simp only [List.map_cons, schedOk, Bool.and_eq_true] at hok
  exact aj_v (hall ((i, true), o) (by simp)) hok.1 hQ hv (gokL_eq os e o ▸ hg) hd hn hS (k _ hok.2 fun x hx => hall x (by simp [hx]))
theorem dj_e {i d : Nat} {o : Oper} {α : Type} {V : α → Value} {C : α → List HP} (hv : OpE P s n o e l (fun v w' => ∃ x, v = V x ∧ St s (C x) w')) (hg : gokL os e o = some true) (hd : o.dst = some d) (hn : Nat.blt d n = true)
    (hb : bar.contains i = true ∨ ∀ x h, Sat (C x) h → Sat lS h) (k : ∀ x, DJ P s os Q lS bar sos n ((d, V x) :: e) (C x)) : DJ P s os Q lS bar (((i, false), o) :: sos) n e l := fun listed hok hall => by
  simp only [List.map_cons, schedOk, Bool.and_eq_true, beq_iff_eq] at hok
  exact aj_e (hall ((i, false), o) (by simp)) hok.1 hv (gokL_eq os e o ▸ hg) hd hn hb fun y => k y _ hok.2 fun x hx => hall x (by simp [hx])
theorem dj_e0 {i : Nat} {o : Oper} {α : Type} {V : α → Value} {C : α → List HP} (hv : OpE P s n o e l (fun v w' => ∃ x, v = V x ∧ St s (C x) w')) (hg : gokL os e o = some true) (hd : o.dst = none)
    (hb : bar.contains i = true ∨ ∀ x h, Sat (C x) h → Sat lS h) (k : ∀ x, DJ P s os Q lS bar sos n e (C x)) : DJ P s os Q lS bar (((i, false), o) :: sos) n e l := fun listed hok hall => by
  simp only [List.map_cons, schedOk, Bool.and_eq_true, beq_iff_eq] at hok
  exact aj_e0 (hall ((i, false), o) (by simp)) hok.1 hv (gokL_eq os e o ▸ hg) hd hb fun y => k y _ hok.2 fun x hx => hall x (by simp [hx])
theorem dj_skip {i d : Nat} {o : Oper} (hQ : NP Q) (hg : gokL os e o = some false) (hd : o.dst = some d) (hn : Nat.blt d n = true)
    (hS : ∀ h, Sat l h → Sat lS h) (k : DJ P s os Q lS bar sos n ((d, undef) :: e) l) : DJ P s os Q lS bar (((i, true), o) :: sos) n e l := fun listed hok hall => by
  simp only [List.map_cons, schedOk, Bool.and_eq_true] at hok
  exact aj_skip (hall ((i, true), o) (by simp)) hok.1 hQ (gokL_eq os e o ▸ hg) hd hn hS (k _ hok.2 fun x hx => hall x (by simp [hx]))
theorem dj_skipE {i d : Nat} {o : Oper} (hg : gokL os e o = some false) (hd : o.dst = some d) (hn : Nat.blt d n = true)
    (hS : ∀ h, Sat l h → Sat lS h) (k : DJ P s os Q lS bar sos n ((d, undef) :: e) l) : DJ P s os Q lS bar (((i, false), o) :: sos) n e l := fun listed hok hall a w hf hw => by
  simp only [List.map_cons, schedOk, Bool.and_eq_true, beq_iff_eq] at hok
  have ho := hall ((i, false), o) (by simp)
  refine ⟨fun h => absurd (hok.1 ▸ h) (by simp), fun j hj => ?_⟩
  rw [hok.1] at hj
  obtain rfl : j = i := by simpa using hj
  have hw' : Region.wanted o (yielded os.toArray a.tmps) = false := gok_spec hf (gokL_eq os e o ▸ hg)
  unfold wpOp
  simp only at ho
  simp only [ho, hw', Bool.false_eq_true, if_false]
  refine ⟨.inr (hS _ hw.sat), k _ hok.2 (fun x hx => hall x (by simp [hx])) _ _ ?_ hw⟩
  rw [hd]; exact hf.put (by simpa using hn) _
theorem dj_nil (h : XJ s Q .normal n e l) : DJ P s os Q lS bar [] n e l := fun listed hok _ => by
  simp only [List.map_nil, schedOk] at hok
  exact aj_nil (by simpa using hok) h
theorem dj_case {t : Nat} {b : Bool} (ht : b = true → DJ P s os Q lS bar sos n ((t, .bool true) :: e) l) (hf : b = false → DJ P s os Q lS bar sos n ((t, .bool false) :: e) l) : DJ P s os Q lS bar sos n ((t, .bool b) :: e) l := by
  cases b
  · exact hf rfl
  · exact ht rfl
theorem dj_head {t : Nat} {v v' : Value} (h : v = v') (k : DJ P s os Q lS bar sos n ((t, v') :: e) l) : DJ P s os Q lS bar sos n ((t, v) :: e) l := h ▸ k
theorem dj_eq {e' : Env} {l' : List HP} (he : e = e') (hl : l = l') (k : DJ P s os Q lS bar sos n e' l') : DJ P s os Q lS bar sos n e l := by subst he; subst hl; exact k
theorem dj_sat {l' : List HP} (hs : ∀ h, Sat l h → Sat l' h) (k : DJ P s os Q lS bar sos n e l') : DJ P s os Q lS bar sos n e l := fun li h1 h2 => aj_sat hs (k li h1 h2)
theorem dj_out {α : Type} {l' : α → List HP} (hs : ∀ h, Sat l h → ∃ x, Sat (l' x) h) (k : ∀ x, DJ P s os Q lS bar sos n e (l' x)) : DJ P s os Q lS bar sos n e l := fun li h1 h2 => aj_out hs fun x => k x li h1 h2
theorem dj_fact {p : Prop} (hs : ∀ h, Sat l h → p) (k : p → DJ P s os Q lS bar sos n e l) : DJ P s os Q lS bar sos n e l := fun li h1 h2 a w hf hw => k (hs _ hw.sat) li h1 h2 a w hf hw

/-! ### guards in a stretch in the order of the text, looked up in a list -/
theorem og_v {o : Oper} {r : List Oper} {v : Value} {d : Nat} (hv : OpV P n o e l v) (hg : gokL os e o = some true) (hd : o.dst = some d) (hn : Nat.blt d n = true)
    (k : OJ P s os.toArray Q r n ((d, v) :: e) l) : OJ P s os.toArray Q (o :: r) n e l := oj_v hv (gokL_eq os e o ▸ hg) hd hn k
theorem og_skip {o : Oper} {r : List Oper} {d : Nat} (hg : gokL os e o = some false) (hd : o.dst = some d) (hn : Nat.blt d n = true)
    (k : OJ P s os.toArray Q r n ((d, undef) :: e) l) : OJ P s os.toArray Q (o :: r) n e l := oj_skip (gokL_eq os e o ▸ hg) hd hn k
theorem og_e {o : Oper} {r : List Oper} {α : Type} {d : Nat} {V : α → Value} {C : α → List HP} (hv : OpE P s n o e l (fun v w' => ∃ x, v = V x ∧ St s (C x) w')) (hg : gokL os e o = some true)
    (hd : o.dst = some d) (hn : Nat.blt d n = true) (k : ∀ x, OJ P s os.toArray Q r n ((d, V x) :: e) (C x)) : OJ P s os.toArray Q (o :: r) n e l := oj_e hv (gokL_eq os e o ▸ hg) hd hn k

end
end Go.Proofs.Ytbjdadekheoebaa
