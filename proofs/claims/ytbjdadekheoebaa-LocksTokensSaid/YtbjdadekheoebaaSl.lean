/- A small logic of separated memory over the machine's steps: what a state of memory says in parts that lie apart, and how each kind of operation changes those parts. It speaks of no program. -/
import Derived.OrdersHeld
import Derived.Tactics
import Derived.Laws.Entries
import Derived.Laws.Cells
set_option linter.all false
set_option linter.unusedVariables false
set_option linter.unusedSimpArgs false
set_option linter.unusedSectionVars false
set_option linter.unnecessarySimpa false
namespace Go.Proofs.Ytbjdadekheoebaa

/-! ### parts of memory -/
abbrev HL := Nat → Option Obj
abbrev HP := HL → Prop
def hl (w : World) : HL := fun b => w.heap[b]?
def HL.le (h k : HL) : Prop := ∀ b o, h b = some o → k b = some o
def HL.apart (h k : HL) : Prop := ∀ b, h b = none ∨ k b = none
theorem HL.le.refl (h : HL) : h.le h := fun _ _ e => e
theorem HL.le.trans {a b c : HL} (h : a.le b) (k : b.le c) : a.le c := fun x o e => k x o (h x o e)

/-- The parts of l lie in h, apart from one another. -/
def Sat : List HP → HL → Prop
  | [], _ => True
  | A :: l, h => ∃ h1 h2 : HL, h1.apart h2 ∧ h1.le h ∧ h2.le h ∧ A h1 ∧ Sat l h2

theorem Sat.up : ∀ {l : List HP} {h k : HL}, Sat l h → h.le k → Sat l k
  | [], _, _, _, _ => trivial
  | _ :: _, _, _, ⟨h1, h2, d, a, b, c, e⟩, hk => ⟨h1, h2, d, a.trans hk, b.trans hk, c, e⟩

/-- A list of parts as one part. -/
def sep (l : List HP) : HP := fun h => Sat l h

theorem Sat.swap {A B : HP} {l : List HP} {h : HL} : Sat (A :: B :: l) h → Sat (B :: A :: l) h := by
  rintro ⟨h1, h2, d, a, b, c, h3, h4, d', a', b', c', e⟩
  refine ⟨h3, fun x => (h1 x).or (h4 x), ?_, a'.trans b, ?_, c', h1, h4, ?_, ?_, ?_, c, e⟩
  · intro x
    rcases hx : h3 x with _ | o
    · exact .inl rfl
    · right
      have h2x := a' x o hx
      have h1x : h1 x = none := (d x).resolve_right (by rw [h2x]; simp)
      have h4x : h4 x = none := (d' x).resolve_left (by rw [hx]; simp)
      simp [h1x, h4x]
  · intro x o hx
    rcases h1x : h1 x with _ | o'
    · simp [h1x] at hx; exact b x o (b' x o hx)
    · simp [h1x] at hx; subst hx; exact a x _ h1x
  · intro x
    rcases h1x : h1 x with _ | o'
    · exact .inl rfl
    · have h2x : h2 x = none := (d x).resolve_left (by rw [h1x]; simp)
      rcases h4x : h4 x with _ | o''
      · exact .inr rfl
      · rw [b' x o'' h4x] at h2x; cases h2x
  · intro x o hx; simp [hx]
  · intro x o hx
    rcases h1x : h1 x with _ | o'
    · simpa [h1x] using hx
    · have h2x : h2 x = none := (d x).resolve_left (by rw [h1x]; simp)
      rw [b' x o hx] at h2x; cases h2x

theorem Sat.tail_mono {A : HP} {l l' : List HP} {h : HL} (f : ∀ k, Sat l k → Sat l' k) : Sat (A :: l) h → Sat (A :: l') h := by
  rintro ⟨h1, h2, d, a, b, c, e⟩; exact ⟨h1, h2, d, a, b, c, f _ e⟩
theorem Sat.head_mono {A B : HP} {l : List HP} {h : HL} (f : ∀ k, A k → B k) : Sat (A :: l) h → Sat (B :: l) h := by
  rintro ⟨h1, h2, d, a, b, c, e⟩; exact ⟨h1, h2, d, a, b, f _ c, e⟩
theorem Sat.drop1 {A : HP} {l : List HP} {h : HL} : Sat (A :: l) h → Sat l h := by
  rintro ⟨h1, h2, d, a, b, c, e⟩; exact e.up b

theorem Sat.perm {l l' : List HP} (p : l.Perm l') : ∀ {h : HL}, Sat l h → Sat l' h := by
  induction p with
  | nil => exact id
  | cons x _ ih => exact Sat.tail_mono (fun _ => ih)
  | swap x y l => exact Sat.swap
  | trans _ _ ih1 ih2 => exact fun h => ih2 (ih1 h)

theorem getElem_cons_eraseIdx_perm {α : Type} : ∀ {l : List α} {i : Nat} (h : i < l.length), (l[i] :: l.eraseIdx i).Perm l
  | [], _, h => by simp at h
  | _ :: _, 0, _ => by simp
  | x :: l, i + 1, h => by
    have ih := getElem_cons_eraseIdx_perm (l := l) (i := i) (by simpa using h)
    simp only [List.getElem_cons_succ, List.eraseIdx_cons_succ]
    exact (List.Perm.swap _ _ _).trans (ih.cons x)

theorem Sat.front {i : Nat} : ∀ {l : List HP} {A : HP} {h : HL}, l[i]? = some A → Sat l h → Sat (A :: l.eraseIdx i) h := by
  intro l A h hi hs
  refine Sat.perm ?_ hs
  have hlt : i < l.length := by
    rcases Nat.lt_or_ge i l.length with h | h
    · exact h
    · rw [List.getElem?_eq_none h] at hi; cases hi
  have e : l[i] = A := by rw [List.getElem?_eq_getElem hlt] at hi; exact Option.some.inj hi
  rw [← e]
  exact (getElem_cons_eraseIdx_perm hlt).symm

theorem Sat.pick : ∀ {l : List HP} {i : Nat} {A : HP} {h : HL}, l[i]? = some A → Sat l h → ∃ k : HL, k.le h ∧ A k := by
  intro l i A h hi hs
  obtain ⟨h1, h2, d, a, b, c, e⟩ := Sat.front hi hs
  exact ⟨h1, a, c⟩

/-- joining and parting -/
theorem Sat.flat {l1 l2 : List HP} : ∀ {h : HL}, Sat (sep l1 :: l2) h → Sat (l1 ++ l2) h := by
  induction l1 with
  | nil => intro h hs; exact hs.drop1
  | cons A l1 ih =>
    intro h hs
    obtain ⟨h1, h2, d, a, b, ⟨k1, k2, d', a', b', c', e'⟩, e⟩ := hs
    have h3 : Sat (A :: sep l1 :: l2) h := by
      refine ⟨k1, fun x => (k2 x).or (h2 x), ?_, a'.trans a, ?_, c', k2, h2, ?_, ?_, ?_, e', e⟩
      · intro x
        rcases hx : k1 x with _ | o
        · exact .inl rfl
        · right
          have h1x := a' x o hx
          have h2x : h2 x = none := (d x).resolve_left (by rw [h1x]; simp)
          have k2x : k2 x = none := (d' x).resolve_left (by rw [hx]; simp)
          simp [h2x, k2x]
      · intro x o hx
        rcases k2x : k2 x with _ | o'
        · simp [k2x] at hx; exact b x o hx
        · simp [k2x] at hx; subst hx; exact a x _ (b' x _ k2x)
      · intro x
        rcases k2x : k2 x with _ | o'
        · exact .inl rfl
        · exact .inr ((d x).resolve_left (by rw [b' x _ k2x]; simp))
      · intro x o hx; simp [hx]
      · intro x o hx
        rcases k2x : k2 x with _ | o'
        · simpa [k2x] using hx
        · have : h2 x = none := (d x).resolve_left (by rw [b' x _ k2x]; simp)
          rw [hx] at this; cases this
    exact Sat.tail_mono (fun _ => ih) h3

theorem Sat.pack : ∀ (l1 : List HP) {l2 : List HP} {h : HL}, Sat (l1 ++ l2) h → Sat (sep l1 :: l2) h
  | [], _, h, hs => ⟨fun _ => none, h, fun _ => .inl rfl, fun _ _ e => (by cases e), HL.le.refl _, trivial, hs⟩
  | A :: l1, l2, h, hs => by
    have h1 : Sat (A :: sep l1 :: l2) h := Sat.tail_mono (fun _ k => Sat.pack l1 k) hs
    obtain ⟨k1, h2, d, a, b, c, m1, m2, d', a', b', c', e⟩ := h1
    refine ⟨fun x => (k1 x).or (m1 x), m2, ?_, ?_, b'.trans b, ⟨k1, m1, ?_, ?_, ?_, c, c'⟩, e⟩
    · intro x
      rcases hx : m2 x with _ | o
      · exact .inr rfl
      · left
        have h2x := b' x o hx
        have k1x : k1 x = none := (d x).resolve_right (by rw [h2x]; simp)
        have m1x : m1 x = none := (d' x).resolve_right (by rw [hx]; simp)
        simp [k1x, m1x]
    · intro x o hx
      rcases k1x : k1 x with _ | o'
      · simp [k1x] at hx; exact b x o (a' x o hx)
      · simp [k1x] at hx; subst hx; exact a x _ k1x
    · intro x
      rcases k1x : k1 x with _ | o'
      · exact .inl rfl
      · right
        have h2x : h2 x = none := (d x).resolve_left (by rw [k1x]; simp)
        rcases m1x : m1 x with _ | o''
        · rfl
        · rw [a' x o'' m1x] at h2x; cases h2x
    · intro x o hx; simp [hx]
    · intro x o hx
      rcases k1x : k1 x with _ | o'
      · simpa [k1x] using hx
      · have h2x : h2 x = none := (d x).resolve_left (by rw [k1x]; simp)
        rw [a' x o hx] at h2x; cases h2x

theorem Sat.suffix {l2 : List HP} : ∀ (l1 : List HP) {h : HL}, Sat (l1 ++ l2) h → Sat l2 h
  | [], _, hs => hs
  | _ :: l1, _, hs => Sat.suffix l1 hs.drop1
theorem Sat.firsts {l2 : List HP} : ∀ (l1 : List HP) {h : HL}, Sat (l1 ++ l2) h → Sat l1 h
  | [], _, _ => trivial
  | _ :: l1, _, hs => Sat.tail_mono (fun _ k => Sat.firsts l1 k) hs

/-- Some of the parts, by their places. -/
def nthH : List HP → Nat → HP
  | [], _ => fun _ => True
  | A :: _, 0 => A
  | _ :: r, k + 1 => nthH r k
theorem nthH_eq : ∀ (l : List HP) (i : Nat), nthH l i = (l[i]?).getD (fun _ => True)
  | [], _ => by simp [nthH]
  | A :: _, 0 => by simp [nthH]
  | _ :: r, k + 1 => by simp [nthH, nthH_eq r k]
/-- Are these the numbers below their count, each once? -/
def permB (js : List Nat) : Bool := js.isPerm (List.range js.length)
def sel (l : List HP) : List Nat → List HP
  | [] => []
  | i :: r => nthH l i :: sel l r

/-- A new order: the places of l, each once. -/
theorem Sat.order {l : List HP} {h : HL} (js : List Nat) (hb : permB js = true) (hn : l.length = js.length) (hs : Sat l h) : Sat (sel l js) h := by
  have hp' : js.Perm (List.range l.length) := by rw [hn]; exact List.isPerm_iff.1 hb
  have e : ∀ js : List Nat, sel l js = js.map fun i => (l[i]?).getD (fun _ => True) := by
    intro js; induction js with
    | nil => rfl
    | cons i r ih => simp [sel, nthH_eq, ih]
  have e2 : l = (List.range l.length).map fun i => (l[i]?).getD (fun _ => True) := by
    apply List.ext_getElem?
    intro i
    simp only [List.getElem?_map]
    by_cases hi : i < l.length
    · simp [hi]
    · simp [hi]
  rw [e]
  refine Sat.perm ?_ hs
  refine List.Perm.trans (List.Perm.of_eq e2) ?_
  exact (hp'.map _).symm

/-! ### the block parts -/
/-- Block b is o. -/
def pts (b : Nat) (o : Obj) : HP := fun h => h b = some o
/-- A fact that is no memory. -/
def fact (p : Prop) : HP := fun _ => p

theorem Sat.fact_out {p : Prop} {l : List HP} {h : HL} (hs : Sat (fact p :: l) h) : p := by
  obtain ⟨_, _, _, _, _, c, _⟩ := hs; exact c
theorem Sat.fact_in {p : Prop} {l : List HP} {h : HL} (hp : p) (hs : Sat l h) : Sat (fact p :: l) h :=
  ⟨fun _ => none, h, fun _ => .inl rfl, fun _ _ e => (by cases e), HL.le.refl _, hp, hs⟩
theorem Sat.ex_out {α : Type} {A : α → HP} {l : List HP} {h : HL} (hs : Sat ((fun k => ∃ x, A x k) :: l) h) : ∃ x, Sat (A x :: l) h := by
  obtain ⟨h1, h2, d, a, b, ⟨x, c⟩, e⟩ := hs; exact ⟨x, h1, h2, d, a, b, c, e⟩
theorem Sat.ex_in {α : Type} {A : α → HP} {l : List HP} {h : HL} (x : α) (hs : Sat (A x :: l) h) : Sat ((fun k => ∃ x, A x k) :: l) h := by
  obtain ⟨h1, h2, d, a, b, c, e⟩ := hs; exact ⟨h1, h2, d, a, b, ⟨x, c⟩, e⟩

def HL.put (h : HL) (b : Nat) (o : Obj) : HL := fun x => if x = b then some o else h x

theorem Sat.pts_at {l : List HP} {i b : Nat} {o : Obj} {h : HL} (hi : l[i]? = some (pts b o)) (hs : Sat l h) : h b = some o := by
  obtain ⟨k, hk, e⟩ := Sat.pick hi hs; exact hk _ _ e

theorem Sat.write0 {b : Nat} {o o' : Obj} {l : List HP} {h : HL} (hs : Sat (pts b o :: l) h) : Sat (pts b o' :: l) (h.put b o') := by
  obtain ⟨h1, h2, d, a, e, c, f⟩ := hs
  have hb : h2 b = none := (d b).resolve_left (by rw [show h1 b = some o from c]; simp)
  refine ⟨fun x => if x = b then some o' else none, h2, ?_, ?_, ?_, ?_, f⟩
  · intro x
    by_cases hx : x = b
    · subst hx; exact .inr hb
    · left; simp [hx]
  · intro x o'' hx
    by_cases hx' : x = b
    · subst hx'; simpa [HL.put] using hx
    · simp [hx'] at hx
  · intro x o'' hx
    by_cases hx' : x = b
    · subst hx'; rw [hb] at hx; cases hx
    · simpa [HL.put, hx'] using e x o'' hx
  · simp [pts]

theorem set_eq_front {l : List HP} {i : Nat} {A B : HP} (hi : l[i]? = some A) : (B :: l.eraseIdx i).Perm (l.set i B) := by
  have hlt : i < l.length := by
    rcases Nat.lt_or_ge i l.length with h | h
    · exact h
    · rw [List.getElem?_eq_none h] at hi; cases hi
  have h1 : (l.set i B).eraseIdx i = l.eraseIdx i := by
    rw [List.eraseIdx_set_eq]
  have hlt' : i < (l.set i B).length := by simpa using hlt
  have := getElem_cons_eraseIdx_perm hlt'
  rw [h1] at this
  simpa using this

/-- a block is written anew -/
theorem Sat.write {l : List HP} {i b : Nat} {o o' : Obj} {h : HL} (hi : l[i]? = some (pts b o)) (hs : Sat l h) : Sat (l.set i (pts b o')) (h.put b o') :=
  Sat.perm (set_eq_front hi) (Sat.write0 (Sat.front hi hs))

theorem Sat.new {l : List HP} {b : Nat} {o : Obj} {h : HL} (hb : h b = none) (hs : Sat l h) : Sat (pts b o :: l) (h.put b o) := by
  refine ⟨fun x => if x = b then some o else none, h, ?_, ?_, ?_, ?_, hs⟩
  · intro x
    by_cases hx : x = b
    · subst hx; exact .inr hb
    · left; simp [hx]
  · intro x o'' hx
    by_cases hx' : x = b
    · subst hx'; simpa [HL.put] using hx
    · simp [hx'] at hx
  · intro x o'' hx
    by_cases hx' : x = b
    · subst hx'; rw [hb] at hx; cases hx
    · simpa [HL.put, hx'] using hx
  · simp [pts]

/-- replace part i, keeping the memory -/
theorem Sat.replace {l : List HP} {i : Nat} {A B : HP} {h : HL} (hi : l[i]? = some A) (f : ∀ k, A k → B k) (hs : Sat l h) : Sat (l.set i B) h :=
  Sat.perm (set_eq_front hi) (Sat.head_mono f (Sat.front hi hs))

/-! ### worlds -/
theorem hl_alloc (w : World) (o : Obj) : hl (w.alloc o) = (hl w).put w.heap.size o := by
  funext x
  simp only [hl, World.alloc, HL.put, Array.getElem?_push]
theorem hl_fresh (w : World) : hl w w.heap.size = none := by simp [hl]
theorem hl_drew (w : World) : hl w.drew = hl w := rfl

/-- The streams of w are those of s; its memory bears the parts l. -/
structure St (s : World) (l : List HP) (w : World) : Prop where
  sat : Sat l (hl w)
  os : w.os = s.os
  tape : w.tape = s.tape
  output : w.output = s.output

theorem St.mono {s w : World} {l l' : List HP} (f : Sat l (hl w) → Sat l' (hl w)) (h : St s l w) : St s l' w := ⟨f h.sat, h.os, h.tape, h.output⟩
theorem St.drew {s w : World} {l : List HP} (h : St s l w) : St s l w.drew := ⟨h.sat, h.os, h.tape, h.output⟩
theorem St.alloc {s w : World} {l : List HP} (h : St s l w) (o : Obj) : St s (pts w.heap.size o :: l) (w.alloc o) :=
  ⟨by rw [hl_alloc]; exact Sat.new (hl_fresh w) h.sat, h.os, h.tape, h.output⟩

/-! ### frames -/
abbrev Env := List (Nat × Value)
def look : Env → Nat → Option Value
  | [], _ => none
  | (t, v) :: r, u => if t == u then some v else look r u
def opv (e : Env) : Operand → Option Value
  | .tmp t => look e t
  | .const v => some v
  | .global g => some (.pointer (some ⟨g, 0, none⟩))
  | .func f => some (.func (.func f) #[] #[])
def opvs (e : Env) : List Operand → Option (List Value)
  | [] => some []
  | x :: r => match opv e x, opvs e r with
    | some v, some vs => some (v :: vs)
    | _, _ => none

structure Fr (n : Nat) (e : Env) (a : Act) : Prop where
  size : a.tmps.size = n
  defers : a.defers = []
  at_ : ∀ t v, look e t = some v → a.tmps[t]? = some v

theorem Fr.opv {n : Nat} {e : Env} {a : Act} (h : Fr n e a) {x : Operand} {v : Value} (hx : opv e x = some v) : a.eval x = v := by
  cases x with
  | tmp t => have := h.at_ t v hx; simp [Act.eval, this]
  | const c => simpa [Go.Proofs.Ytbjdadekheoebaa.opv, Act.eval] using hx
  | global g => simpa [Go.Proofs.Ytbjdadekheoebaa.opv, Act.eval] using hx
  | func f => simpa [Go.Proofs.Ytbjdadekheoebaa.opv, Act.eval] using hx

theorem Fr.opvs {n : Nat} {e : Env} {a : Act} (h : Fr n e a) : ∀ {xs : List Operand} {vs : List Value}, opvs e xs = some vs → xs.map a.eval = vs
  | [], vs, hx => by simp [Go.Proofs.Ytbjdadekheoebaa.opvs] at hx; subst hx; rfl
  | x :: r, vs, hx => by
    simp only [Go.Proofs.Ytbjdadekheoebaa.opvs] at hx
    cases h1 : Go.Proofs.Ytbjdadekheoebaa.opv e x with
    | none => simp [h1] at hx
    | some v =>
      cases h2 : Go.Proofs.Ytbjdadekheoebaa.opvs e r with
      | none => simp [h1, h2] at hx
      | some ws => simp [h1, h2] at hx; subst hx; simp [h.opv h1, h.opvs h2]

theorem Fr.put {n d : Nat} {e : Env} {a : Act} (h : Fr n e a) (hd : d < n) (v : Value) : Fr n ((d, v) :: e) (a.put (some d) v) := by
  refine ⟨by simp [Act.put, h.size], by simp [Act.put, h.defers], fun t u hu => ?_⟩
  simp only [look] at hu
  by_cases hdt : d = t
  · subst hdt; simp at hu; subst hu
    have : d < a.tmps.size := by rw [h.size]; exact hd
    simp [Act.put, this]
  · have : (d == t) = false := by simpa using hdt
    rw [this] at hu
    simp only [Bool.false_eq_true, if_false] at hu
    have := h.at_ t u hu
    simp [Act.put, Array.getElem?_setIfInBounds_ne hdt, this]

def putE (e : Env) : Option Nat → Value → Env
  | some d, v => (d, v) :: e
  | none, _ => e
theorem Fr.putE {n : Nat} {e : Env} {a : Act} (h : Fr n e a) {dst : Option Nat} (hd : ∀ d, dst = some d → d < n) (v : Value) : Fr n (putE e dst v) (a.put dst v) := by
  cases dst with
  | none => exact h
  | some d => exact h.put (hd d rfl) v

/-- What a slot of the first list says, the second says too. -/
def EnvLe (e e' : Env) : Prop := ∀ t v, look e t = some v → look e' t = some v
theorem Fr.weaken {n : Nat} {e e' : Env} {a : Act} (h : Fr n e a) (hle : EnvLe e' e) : Fr n e' a := ⟨h.size, h.defers, fun t v hv => h.at_ t v (hle t v hv)⟩
theorem EnvLe.nil (e : Env) : EnvLe [] e := fun _ _ h => by cases h
theorem EnvLe.cons {e e' : Env} {t : Nat} {v : Value} (h : look e' t = some v) (k : EnvLe e e') : EnvLe ((t, v) :: e) e' := by
  intro u x hx
  simp only [look] at hx
  by_cases htu : t = u
  · subst htu; simp at hx; subst hx; exact h
  · have : (t == u) = false := by simpa using htu
    rw [this] at hx; exact k u x hx

/-- Does the guard of an operation let it run? -/
def gok (ops : Array Oper) (e : Env) (o : Oper) : Option Bool :=
  match o.guard with
  | none => some true
  | some (g, want) => match (ops[g]?).bind (·.dst) with
    | some t => match look e t with
      | some (.bool b) => some (b == want)
      | some (.tuple _) => some false
      | _ => none
    | none => none

theorem gok_spec {ops : Array Oper} {n : Nat} {e : Env} {a : Act} {o : Oper} {b : Bool} (h : Fr n e a) (hg : gok ops e o = some b) : Region.wanted o (yielded ops a.tmps) = b := by
  unfold gok at hg
  unfold Region.wanted
  split at hg
  · rename_i hn; rw [hn]; exact Option.some.inj hg
  · rename_i g want hn
    rw [hn]
    split at hg
    · rename_i t ht
      split at hg
      · rename_i c hc
        have := h.at_ t _ hc
        simp only [yielded, ht, Option.bind_some, this]
        rw [← Option.some.inj hg]
        cases c <;> cases want <;> rfl
      · rename_i c hc
        have := h.at_ t _ hc
        simp only [yielded, ht, Option.bind_some, this]
        rw [← Option.some.inj hg]
        cases want <;> rfl
      · cases hg
    · cases hg

/-! ### one operation -/
/-- o comes to v, and changes nothing, wherever the slots e and the parts l are. -/
def OpV (P : Program) (n : Nat) (o : Oper) (e : Env) (l : List HP) (v : Value) : Prop :=
  ∀ a w, Fr n e a → Sat l (hl w) → (execOp a.eval o).run P w = .ok (.value v) w

/-- o goes on with a value and a world as Post says. -/
def OpE (P : Program) (s : World) (n : Nat) (o : Oper) (e : Env) (l : List HP) (Post : Value → World → Prop) : Prop :=
  ∀ a w (K : Act → World → Prop) (Q : Exit → Act → World → Prop), Fr n e a → St s l w → (∀ v w', Post v w' → K (a.put o.dst v) w') → o.wp P a w K Q

/-! ### lists of operations -/
def OJ (P : Program) (s : World) (ops : Array Oper) (Q : Exit → Act → World → Prop) (os : List Oper) (n : Nat) (e : Env) (l : List HP) : Prop :=
  ∀ a w, Fr n e a → St s l w → wpList P ops Q os a w
def CJ (P : Program) (s : World) (c : Code) (Q : Exit → Act → World → Prop) (n : Nat) (e : Env) (l : List HP) : Prop :=
  ∀ a w, Fr n e a → St s l w → c.wp P Q a w
/-- The post Q holds at an exit, wherever the slots e and the parts l are. -/
def XJ (s : World) (Q : Exit → Act → World → Prop) (x : Exit) (n : Nat) (e : Env) (l : List HP) : Prop :=
  ∀ a w, Fr n e a → St s l w → Q x a w

section
variable {P : Program} {s : World} {ops : Array Oper} {Q : Exit → Act → World → Prop} {n : Nat} {e : Env} {l : List HP} {o : Oper} {os : List Oper}

theorem oj_nil (h : XJ s Q .normal n e l) : OJ P s ops Q [] n e l := fun a w hf hs => wpList_nil (h a w hf hs)

theorem oj_v {v : Value} {d : Nat} (hv : OpV P n o e l v) (hg : gok ops e o = some true) (hd : o.dst = some d) (hn : Nat.blt d n = true)
    (k : OJ P s ops Q os n ((d, v) :: e) l) : OJ P s ops Q (o :: os) n e l := fun a w hf hs => by
  refine wpList_step fun K hK => ?_
  rw [if_pos (gok_spec hf hg)]
  unfold Oper.wp
  rw [hv a w hf hs.sat]
  refine hK _ _ (k _ _ ?_ hs)
  rw [hd]; exact hf.put (by simpa using hn) v

theorem oj_skip {d : Nat} (hg : gok ops e o = some false) (hd : o.dst = some d) (hn : Nat.blt d n = true)
    (k : OJ P s ops Q os n ((d, undef) :: e) l) : OJ P s ops Q (o :: os) n e l := fun a w hf hs => by
  refine wpList_step fun K hK => ?_
  rw [gok_spec hf hg]
  refine hK _ _ (k _ _ ?_ hs)
  rw [hd]; exact hf.put (by simpa using hn) undef

theorem oj_skip0 (hg : gok ops e o = some false) (hd : o.dst = none) (k : OJ P s ops Q os n e l) : OJ P s ops Q (o :: os) n e l := fun a w hf hs => by
  refine wpList_step fun K hK => ?_
  rw [gok_spec hf hg]
  refine hK _ _ (k _ _ ?_ hs)
  rw [hd]; exact hf

theorem oj_e {α : Type} {d : Nat} {V : α → Value} {C : α → List HP} (hv : OpE P s n o e l (fun v w' => ∃ x, v = V x ∧ St s (C x) w')) (hg : gok ops e o = some true)
    (hd : o.dst = some d) (hn : Nat.blt d n = true) (k : ∀ x, OJ P s ops Q os n ((d, V x) :: e) (C x)) : OJ P s ops Q (o :: os) n e l := fun a w hf hs => by
  refine wpList_step fun K hK => ?_
  rw [if_pos (gok_spec hf hg)]
  refine hv a w K Q hf hs fun v w' ⟨x, hx, hw⟩ => ?_
  subst hx
  refine hK _ _ (k x _ _ ?_ hw)
  rw [hd]; exact hf.put (by simpa using hn) _

theorem oj_e0 {α : Type} {V : α → Value} {C : α → List HP} (hv : OpE P s n o e l (fun v w' => ∃ x, v = V x ∧ St s (C x) w')) (hg : gok ops e o = some true)
    (hd : o.dst = none) (k : ∀ x, OJ P s ops Q os n e (C x)) : OJ P s ops Q (o :: os) n e l := fun a w hf hs => by
  refine wpList_step fun K hK => ?_
  rw [if_pos (gok_spec hf hg)]
  refine hv a w K Q hf hs fun v w' ⟨x, hx, hw⟩ => ?_
  subst hx
  refine hK _ _ (k x _ _ ?_ hw)
  rw [hd]; exact hf

/-- a bool just found is true or false -/
theorem oj_case {t : Nat} {b : Bool} (ht : b = true → OJ P s ops Q os n ((t, .bool true) :: e) l) (hf : b = false → OJ P s ops Q os n ((t, .bool false) :: e) l) :
    OJ P s ops Q os n ((t, .bool b) :: e) l := by
  cases b
  · exact hf rfl
  · exact ht rfl

/-- other slots, other parts -/
theorem oj_weak {e' : Env} {l' : List HP} (he : EnvLe e' e) (hs : ∀ h, Sat l h → Sat l' h) (k : OJ P s ops Q os n e' l') : OJ P s ops Q os n e l :=
  fun a w hf hw => k a w (hf.weaken he) (hw.mono (hs _))
theorem oj_sat {l' : List HP} (hs : ∀ h, Sat l h → Sat l' h) (k : OJ P s ops Q os n e l') : OJ P s ops Q os n e l := oj_weak (fun _ _ h => h) hs k
theorem oj_out {α : Type} {l' : α → List HP} (hs : ∀ h, Sat l h → ∃ x, Sat (l' x) h) (k : ∀ x, OJ P s ops Q os n e (l' x)) : OJ P s ops Q os n e l :=
  fun a w hf hw => by obtain ⟨x, hx⟩ := hs _ hw.sat; exact k x a w hf ⟨hx, hw.os, hw.tape, hw.output⟩
theorem oj_fact {p : Prop} (hs : ∀ h, Sat l h → p) (k : p → OJ P s ops Q os n e l) : OJ P s ops Q os n e l := fun a w hf hw => k (hs _ hw.sat) a w hf hw
theorem oj_eq {e' : Env} {l' : List HP} (he : e = e') (hl : l = l') (k : OJ P s ops Q os n e' l') : OJ P s ops Q os n e l := by subst he; subst hl; exact k

theorem oj_head {t : Nat} {v v' : Value} (h : v = v') (k : OJ P s ops Q os n ((t, v') :: e) l) : OJ P s ops Q os n ((t, v) :: e) l := h ▸ k

/-! ### code -/
theorem cj_eq {c : Code} {e' : Env} {l' : List HP} (he : e = e') (hl : l = l') (k : CJ P s c Q n e' l') : CJ P s c Q n e l := by subst he; subst hl; exact k
theorem cj_region {id : Nat} {os : List Oper} (h : OJ P s os.toArray Q os n e l) : CJ P s (.region id os.toArray false) Q n e l := fun a w hf hs => wp_region_lit (h a w hf hs)
theorem cj_seq {x y : Code} (h : CJ P s x (Exit.then (y.wp P Q) Q) n e l) : CJ P s (.seq x y) Q n e l := fun a w hf hs => wp_seq (h a w hf hs)
theorem xj_then {y : Code} (h : CJ P s y Q n e l) : XJ s (Exit.then (y.wp P Q) Q) .normal n e l := fun a w hf hs => h a w hf hs
theorem cj_skip (h : XJ s Q .normal n e l) : CJ P s .skip Q n e l := fun a w hf hs => wp_skip (h a w hf hs)
theorem cj_exit {id : Nat} (h : XJ s Q (.exit id) n e l) : CJ P s (.exit id) Q n e l := fun a w hf hs => wp_exit (h a w hf hs)
theorem cj_ret (h : XJ s Q .ret n e l) : CJ P s .ret Q n e l := fun a w hf hs => wp_ret (h a w hf hs)
theorem cj_block {id : Nat} {c : Code} (h : CJ P s c (Exit.inBlock id Q) n e l) : CJ P s (.block id c) Q n e l := fun a w hf hs => wp_block (h a w hf hs)
theorem cj_true {c : Operand} {x y : Code} (hc : opv e c = some (.bool true)) (h : CJ P s x Q n e l) : CJ P s (.cond c x y) Q n e l :=
  fun a w hf hs => wp_cond_true (hf.opv hc) (h a w hf hs)
theorem cj_false {c : Operand} {x y : Code} (hc : opv e c = some (.bool false)) (h : CJ P s y Q n e l) : CJ P s (.cond c x y) Q n e l :=
  fun a w hf hs => wp_cond_false (hf.opv hc) (h a w hf hs)
theorem cj_cond {c : Operand} {x y : Code} {b : Bool} (hc : opv e c = some (.bool b)) (ht : b = true → CJ P s x Q n e l) (hf' : b = false → CJ P s y Q n e l) : CJ P s (.cond c x y) Q n e l :=
  fun a w hf hs => wp_cond_split (hf.opv hc) (fun h => ht h a w hf hs) (fun h => hf' h a w hf hs)
theorem cj_case {c : Code} {t : Nat} {b : Bool} (ht : b = true → CJ P s c Q n ((t, .bool true) :: e) l) (hf : b = false → CJ P s c Q n ((t, .bool false) :: e) l) :
    CJ P s c Q n ((t, .bool b) :: e) l := by
  cases b
  · exact hf rfl
  · exact ht rfl
theorem cj_weak {c : Code} {e' : Env} {l' : List HP} (he : EnvLe e' e) (hs : ∀ h, Sat l h → Sat l' h) (k : CJ P s c Q n e' l') : CJ P s c Q n e l :=
  fun a w hf hw => k a w (hf.weaken he) (hw.mono (hs _))
theorem cj_sat {c : Code} {l' : List HP} (hs : ∀ h, Sat l h → Sat l' h) (k : CJ P s c Q n e l') : CJ P s c Q n e l := cj_weak (fun _ _ h => h) hs k
theorem cj_out {c : Code} {α : Type} {l' : α → List HP} (hs : ∀ h, Sat l h → ∃ x, Sat (l' x) h) (k : ∀ x, CJ P s c Q n e (l' x)) : CJ P s c Q n e l :=
  fun a w hf hw => by obtain ⟨x, hx⟩ := hs _ hw.sat; exact k x a w hf ⟨hx, hw.os, hw.tape, hw.output⟩
theorem cj_fact {c : Code} {p : Prop} (hs : ∀ h, Sat l h → p) (k : p → CJ P s c Q n e l) : CJ P s c Q n e l := fun a w hf hw => k (hs _ hw.sat) a w hf hw
theorem xj_weak {x : Exit} {e' : Env} {l' : List HP} (he : EnvLe e' e) (hs : ∀ h, Sat l h → Sat l' h) (k : XJ s Q x n e' l') : XJ s Q x n e l :=
  fun a w hf hw => k a w (hf.weaken he) (hw.mono (hs _))
/-- ways meet: the first part ends, on each way that ends, as J says (for some x); the second goes on from there -/
def Meet (s : World) (n : Nat) {α : Type} (E : α → Env) (C : α → List HP) (Q : Exit → Act → World → Prop) : Exit → Act → World → Prop :=
  Exit.then (fun a w => ∃ x, Fr n (E x) a ∧ St s (C x) w) Q
theorem cj_cut {α : Type} (E : α → Env) (C : α → List HP) {x y : Code} (h : CJ P s x (Meet s n E C Q) n e l) (k : ∀ x, CJ P s y Q n (E x) (C x)) : CJ P s (.seq x y) Q n e l :=
  fun a w hf hs => wp_seq (wp_mono (h a w hf hs) fun ex a' w' q => by
    cases ex
    case normal => obtain ⟨z, h1, h2⟩ := q; exact k z a' w' h1 h2
    all_goals exact q)
theorem xj_meet {α : Type} {E : α → Env} {C : α → List HP} (x : α) (he : EnvLe (E x) e) (hs : ∀ h, Sat l h → Sat (C x) h) : XJ s (Meet s n E C Q) .normal n e l :=
  fun _ _ hf hw => ⟨x, hf.weaken he, hw.mono (hs _)⟩
/-- a loop: what holds at each round's head (for some x); a measure that falls -/
def Round (s : World) (n : Nat) {α : Type} (E : α → Env) (C : α → List HP) (μ : α → Nat) (m : Nat) (Q : Exit → Act → World → Prop) : Exit → Act → World → Prop :=
  Exit.then (fun a w => ∃ x, μ x < m ∧ Fr n (E x) a ∧ St s (C x) w) Q
theorem cj_loop {α : Type} (E : α → Env) (C : α → List HP) (μ : α → Nat) {c : Code} (x : α) (he : EnvLe (E x) e) (hs : ∀ h, Sat l h → Sat (C x) h)
    (k : ∀ x, CJ P s c (Round s n E C μ (μ x) Q) n (E x) (C x)) : CJ P s (.loop c) Q n e l := by
  intro a w hf hw b kk cs
  have key : ∀ m x a w, μ x = m → Fr n (E x) a → St s (C x) w →
      ∃ ex a' w', Q ex a' w' ∧ Arrives P (lone (b.at a (.code c :: .inLoop c :: kk)) cs w) b kk cs ex a' w' := by
    intro m
    induction m using Nat.strongRecOn with
    | _ m ih =>
      intro x a w hm hf hw
      obtain ⟨ex, a₁, w₁, hq, harr⟩ := k x a w hf hw b (.inLoop c :: kk) cs
      cases ex with
      | normal =>
        obtain ⟨y, hlt, hf1, hw1⟩ := hq
        obtain ⟨e₂, a₂, w₂, hq₂, harr₂⟩ := ih (μ y) (hm ▸ hlt) y a₁ w₁ rfl hf1 hw1
        exact ⟨e₂, a₂, w₂, hq₂, .of_steps (Steps.trans harr (.one step_inLoop)) harr₂⟩
      | exit id => exact ⟨_, a₁, w₁, hq, .pass (x := .inLoop c) rfl (fun _ _ => .inl (by simp)) harr⟩
      | goto l => exact ⟨_, a₁, w₁, hq, .pass (x := .inLoop c) rfl (fun _ _ => .inl (by simp)) harr⟩
      | ret => exact ⟨_, a₁, w₁, hq, .pass (x := .inLoop c) rfl (fun _ _ => .inl (by simp)) harr⟩
      | panic ch => exact ⟨_, a₁, w₁, hq, .pass (x := .inLoop c) rfl (fun _ _ => .inl (by simp)) harr⟩
      | outgrown => exact ⟨_, a₁, w₁, hq, .pass (x := .inLoop c) rfl (fun _ _ => .inl (by simp)) harr⟩
  obtain ⟨ex, a', w', hq, harr⟩ := key _ x a w rfl (hf.weaken he) (hw.mono (hs _))
  exact ⟨ex, a', w', hq, .of_steps (.one step_loop) harr⟩
theorem xj_round {α : Type} {E : α → Env} {C : α → List HP} {μ : α → Nat} {m : Nat} (x : α) (hm : μ x < m) (he : EnvLe (E x) e) (hs : ∀ h, Sat l h → Sat (C x) h) :
    XJ s (Round s n E C μ m Q) .normal n e l := fun _ _ hf hw => ⟨x, hm, hf.weaken he, hw.mono (hs _)⟩

end

/-! ### a stretch that ends at its end alone -/
def Pass (s : World) (n : Nat) (e : Env) (l : List HP) : Exit → Act → World → Prop := fun x a w => x = .normal ∧ Fr n e a ∧ St s l w
theorem cj_pass {P : Program} {s : World} {Q : Exit → Act → World → Prop} {n : Nat} {e e' : Env} {l l' : List HP} {c : Code} (h : CJ P s c (Pass s n e' l') n e l) (k : XJ s Q .normal n e' l') : CJ P s c Q n e l :=
  fun a w hf hw => wp_mono (h a w hf hw) fun x a' w' ⟨hx, h1, h2⟩ => by subst hx; exact k a' w' h1 h2
theorem xj_pass {s : World} {n : Nat} {e e' : Env} {l l' : List HP} (he : EnvLe e' e) (hs : ∀ h, Sat l h → Sat l' h) : XJ s (Pass s n e' l') .normal n e l :=
  fun _ _ hf hw => ⟨rfl, hf.weaken he, hw.mono (hs _)⟩

/-! ### exits through what surrounds -/
section
variable {s : World} {Q : Exit → Act → World → Prop} {n : Nat} {e : Env} {l : List HP} {x : Exit}
theorem xj_then_other {K : Act → World → Prop} (hx : x ≠ .normal) (h : XJ s Q x n e l) : XJ s (Exit.then K Q) x n e l := by
  intro a w hf hw
  cases x
  case normal => exact absurd rfl hx
  all_goals exact h a w hf hw
theorem xj_meet_other {α : Type} {E : α → Env} {C : α → List HP} (hx : x ≠ .normal) (h : XJ s Q x n e l) : XJ s (Meet s n E C Q) x n e l := xj_then_other hx h
theorem xj_round_other {α : Type} {E : α → Env} {C : α → List HP} {μ : α → Nat} {m : Nat} (hx : x ≠ .normal) (h : XJ s Q x n e l) : XJ s (Round s n E C μ m Q) x n e l := xj_then_other hx h
theorem xj_block_exit {id : Nat} (h : XJ s Q .normal n e l) : XJ s (Exit.inBlock id Q) (.exit id) n e l := fun a w hf hw => by
  simp only [Exit.inBlock, if_true]; exact h a w hf hw
theorem xj_block_exit_other {id id' : Nat} (hne : (id' == id) = false) (h : XJ s Q (.exit id') n e l) : XJ s (Exit.inBlock id Q) (.exit id') n e l := fun a w hf hw => by
  have : id' ≠ id := by simpa using hne
  simp only [Exit.inBlock, this, if_false]; exact h a w hf hw
theorem xj_block_normal {id : Nat} (h : XJ s Q .normal n e l) : XJ s (Exit.inBlock id Q) .normal n e l := fun a w hf hw => h a w hf hw
theorem xj_block_ret {id : Nat} (h : XJ s Q .ret n e l) : XJ s (Exit.inBlock id Q) .ret n e l := fun a w hf hw => h a w hf hw
end

/-! ### parts with something hidden -/
def exs {α : Type} (A : α → List HP) : HP := fun h => ∃ x, Sat (A x) h
theorem ex_open {α : Type} {A : α → List HP} {l : List HP} {h : HL} (hs : Sat (exs A :: l) h) : ∃ x, Sat (A x ++ l) h := by
  obtain ⟨h1, h2, d, a, b, ⟨x, c⟩, f⟩ := hs
  exact ⟨x, Sat.flat ⟨h1, h2, d, a, b, c, f⟩⟩
theorem ex_close {α : Type} {A : α → List HP} {l : List HP} {h : HL} (x : α) (hs : Sat (A x ++ l) h) : Sat (exs A :: l) h := by
  obtain ⟨h1, h2, d, a, b, c, f⟩ := Sat.pack _ hs
  exact ⟨h1, h2, d, a, b, ⟨x, c⟩, f⟩
/-- open part i -/
theorem sat_open {α : Type} {A : α → List HP} {l : List HP} (i : Nat) (hi : l[i]? = some (exs A)) : ∀ h, Sat l h → ∃ x, Sat (A x ++ l.eraseIdx i) h := fun _ hs => ex_open (Sat.front hi hs)
theorem sat_fact {p : Prop} {l : List HP} (i : Nat) (hi : l[i]? = some (fact p)) : ∀ h, Sat l h → p := fun _ hs => (Sat.front hi hs).fact_out
theorem sat_know {A : HP} {p : Prop} {l : List HP} (i : Nat) (hi : l[i]? = some A) (f : ∀ h, A h → p) : ∀ h, Sat l h → p := fun _ hs => by
  obtain ⟨k, _, hk⟩ := Sat.pick hi hs; exact f k hk
/-- part i becomes another -/
theorem sat_turn {A B : HP} {l : List HP} (i : Nat) (hi : l[i]? = some A) (f : ∀ h, A h → B h) : ∀ h, Sat l h → Sat (l.set i B) h := fun _ hs => Sat.replace hi f hs
/-- the first parts are packed -/
theorem sat_close {α : Type} {A : α → List HP} {l l' r : List HP} (x : α) (js : List Nat) (hp : permB js = true) (hn : l.length = js.length) (he : sel l js = A x ++ r) (hl : l' = exs A :: r) : ∀ h, Sat l h → Sat l' h := fun _ hs =>
  hl ▸ ex_close x (he ▸ Sat.order js hp hn hs)

/-! ### functions -/
/-- Called with args wherever the parts pre are, f returns a value; behind it the parts post are (for some x, with the value V x); what lies beside is as it was. -/
def Spec (P : Program) (f : FuncId) (args : List Value) (pre : List HP) {α : Type} (V : α → Value) (C : α → List HP) : Prop :=
  ∀ (F : HP) (s w : World), St s (pre ++ [F]) w → Calls P f args.toArray w fun e w' => ∃ x, e = .returned (V x) ∧ St s (C x ++ [F]) w'

def resv (e : Env) : List ResultVar → Option (List Value)
  | [] => some []
  | .tmp t :: r => match look e t, resv e r with
    | some v, some vs => some (v :: vs)
    | _, _ => none
  | .cell _ _ :: _ => none
def oneOf : List Value → Value
  | [v] => v
  | vs => .tuple vs.toArray

end Go.Proofs.Ytbjdadekheoebaa
