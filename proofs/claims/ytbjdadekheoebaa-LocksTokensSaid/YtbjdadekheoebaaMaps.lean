/- Maps in the logic of separated memory: what making, looking up, putting, taking away, counting and ranging do. It speaks of no program. -/
import Derived.Test.YtbjdadekheoebaaDraw
import Derived.Maps.RangeRun
import Derived.MapKept
set_option linter.all false
set_option linter.unusedVariables false
set_option linter.unusedSimpArgs false
set_option linter.unusedSectionVars false
set_option linter.unnecessarySimpa false
namespace Go.Proofs.Ytbjdadekheoebaa
open Go.RowKit Go.Lib Go.MapKept

/-! ### lists of keys and values -/
section
variable {α β γ : Type} [DecidableEq α]
def aget (k : α) : List (α × β) → Option β
  | [] => none
  | (j, v) :: r => if j = k then some v else aget k r
def adel (k : α) (l : List (α × β)) : List (α × β) := l.filter fun p => decide (p.1 ≠ k)
theorem aget_mem {k : α} {v : β} : ∀ {l : List (α × β)}, aget k l = some v → (k, v) ∈ l
  | (j, u) :: r, h => by
    simp only [aget] at h
    split at h
    · rename_i e; subst e; cases h; simp
    · exact List.mem_cons_of_mem _ (aget_mem h)
theorem aget_none {k : α} : ∀ {l : List (α × β)}, aget k l = none ↔ ∀ p ∈ l, p.1 ≠ k
  | [] => by simp [aget]
  | (j, u) :: r => by
    simp only [aget]
    split
    · rename_i e; subst e; simp
    · rename_i e
      rw [aget_none]
      simp [e]
theorem aget_of_mem {k : α} {v : β} : ∀ {l : List (α × β)}, (l.map (·.1)).Nodup → (k, v) ∈ l → aget k l = some v
  | (j, u) :: r, hn, h => by
    simp only [List.map_cons, List.nodup_cons] at hn
    simp only [aget]
    rcases List.mem_cons.1 h with e | e
    · cases e; simp
    · have : j ≠ k := fun e' => hn.1 (List.mem_map.2 ⟨(k, v), e, e'.symm⟩)
      simp [this, aget_of_mem hn.2 e]
theorem aget_map {k : α} {f : β → γ} : ∀ {l : List (α × β)}, aget k (l.map fun p => (p.1, f p.2)) = (aget k l).map f
  | [] => rfl
  | (j, u) :: r => by simp only [List.map_cons, aget]; split <;> simp [aget_map]
theorem adel_none {k : α} {l : List (α × β)} (h : aget k l = none) : adel k l = l := by
  rw [adel, List.filter_eq_self]
  intro p hp
  simpa using aget_none.1 h p hp
theorem adel_perm {k : α} {v : β} {l : List (α × β)} (hn : (l.map (·.1)).Nodup) (h : aget k l = some v) : l.Perm ((k, v) :: adel k l) := by
  induction l with
  | nil => cases h
  | cons p r ih =>
    obtain ⟨j, u⟩ := p
    simp only [List.map_cons, List.nodup_cons] at hn
    simp only [aget] at h
    split at h
    · rename_i e; subst e; cases h
      have hr : aget j r = none := aget_none.2 fun p hp e => hn.1 (List.mem_map.2 ⟨p, hp, e⟩)
      have := adel_none hr
      simp only [adel, ne_eq, List.filter_cons, not_true_eq_false, decide_false, Bool.false_eq_true, if_false] at this ⊢
      rw [this]
    · rename_i e
      have := ih hn.2 h
      simp only [adel, ne_eq, List.filter_cons, e, not_false_eq_true, decide_true, if_true]
      exact (this.cons _).trans (List.Perm.swap _ _ _)
theorem adel_map {k : α} {f : β → γ} {l : List (α × β)} : adel k (l.map fun p => (p.1, f p.2)) = (adel k l).map fun p => (p.1, f p.2) := by
  simp only [adel, List.filter_map]; rfl
theorem adel_nodup {k : α} {l : List (α × β)} (h : (l.map (·.1)).Nodup) : ((adel k l).map (·.1)).Nodup := (List.filter_sublist.map _).nodup h
theorem adel_not {k : α} {l : List (α × β)} : aget k (adel k l) = none := aget_none.2 fun p hp => by simpa using (List.mem_filter.1 hp).2
end

/-! ### the part -/
/-- How keys of type α look as values. -/
class Key {α : Type} (κ : α → Value) (d : TypeDesc) : Prop where
  isKey : ∀ a, IsKey d (κ a)
  inj : ∀ a b, κ a = κ b → a = b
instance : Key Value.string .string := ⟨fun _ => trivial, fun _ _ h => by cases h; rfl⟩
def ki : Int → Value := fun z => .int .i64 z
instance : Key ki (.int .i64) := ⟨fun _ => rfl, fun _ _ h => by simpa [ki] using h⟩

/-- Block b is a map of the keys and values l. -/
def mp {α : Type} (κ : α → Value) (b : Nat) (l : List (α × Value)) : HP := fun h =>
  ∃ es clock, h b = some (.map es clock) ∧ Stamped es clock ∧ (es.toList.map fun e => (e.key, e.val)).Perm (l.map fun p => (κ p.1, p.2))

section
variable {α : Type} {κ : α → Value} {d : TypeDesc} [hκ : Key κ d]
theorem mp_perm {b : Nat} {l l' : List (α × Value)} (p : l.Perm l') : ∀ h, mp κ b l h → mp κ b l' h := fun _ ⟨es, c, h1, h2, h3⟩ => ⟨es, c, h1, h2, h3.trans (p.map _)⟩
theorem keys_of {es : Array MapEntry} {l : List (α × Value)} (h : (es.toList.map fun e => (e.key, e.val)).Perm (l.map fun p => (κ p.1, p.2))) : (es.toList.map (·.key)).Perm (l.map fun p => κ p.1) := by
  have := h.map Prod.fst
  simpa [List.map_map, Function.comp_def] using this
include hκ in
set_option linter.unusedSectionVars false in
theorem mp_nodup {b : Nat} {l : List (α × Value)} {h : HL} (hm : mp κ b l h) : (l.map (·.1)).Nodup := by
  obtain ⟨es, c, _, ⟨_, _, h3⟩, h4⟩ := hm
  have h5 := (keys_of h4).nodup h3
  have : (l.map fun p => κ p.1) = (l.map (·.1)).map κ := by simp
  rw [this] at h5
  exact (List.pairwise_map.1 h5).imp fun h e => h (by rw [e])
include hκ in
theorem mp_keys {es : Array MapEntry} {l : List (α × Value)} (h : (es.toList.map fun e => (e.key, e.val)).Perm (l.map fun p => (κ p.1, p.2))) : ∀ x ∈ es.toList, IsKey d x.key := fun x hx => by
  have h1 : x.key ∈ es.toList.map (·.key) := List.mem_map.2 ⟨x, hx, rfl⟩
  obtain ⟨p, _, e⟩ := List.mem_map.1 ((keys_of h).mem_iff.1 h1)
  rw [← e]; exact hκ.isKey _
theorem mp_size {es : Array MapEntry} {l : List (α × Value)} (h : (es.toList.map fun e => (e.key, e.val)).Perm (l.map fun p => (κ p.1, p.2))) : es.size = l.length := by
  simpa using h.length_eq

/-- what a search finds -/
theorem find_mp [DecidableEq α] {es : Array MapEntry} {clock : Nat} {l : List (α × Value)} (hs : Stamped es clock) (h : (es.toList.map fun e => (e.key, e.val)).Perm (l.map fun p => (κ p.1, p.2))) (k : α) :
    (Instr.findNow d (κ k) es.toList 0 = some none ∧ aget k l = none) ∨ ∃ j e, Instr.findNow d (κ k) es.toList 0 = some (some (j, e.val)) ∧ es[j]? = some e ∧ e.key = κ k ∧ aget k l = some e.val := by
  have hn : (l.map (·.1)).Nodup := mp_nodup (κ := κ) (d := d) (b := 0) (h := fun _ => some (.map es clock)) ⟨es, clock, rfl, hs, h⟩
  rcases findNow_spec (hκ.isKey k) es.toList 0 (mp_keys h) with ⟨h1, h2⟩ | ⟨j, e, h1, h2, h3⟩
  · refine .inl ⟨h1, aget_none.2 fun p hp e => ?_⟩
    have : κ p.1 ∈ es.toList.map (·.key) := (keys_of h).mem_iff.2 (List.mem_map.2 ⟨p, hp, rfl⟩)
    obtain ⟨x, hx, hxe⟩ := List.mem_map.1 this
    exact h2 x hx (by rw [hxe, e])
  · have hj : es[j]? = some e := by simpa using h2
    refine .inr ⟨j, e, by simpa using h1, hj, h3, aget_of_mem hn ?_⟩
    have h4 : (e.key, e.val) ∈ es.toList.map fun e => (e.key, e.val) := List.mem_map.2 ⟨e, Array.mem_toList_iff.2 (Array.mem_of_getElem? hj), rfl⟩
    obtain ⟨p, hp, hpe⟩ := List.mem_map.1 (h.mem_iff.1 h4)
    simp only [Prod.mk.injEq] at hpe
    have : p.1 = k := hκ.inj _ _ (by rw [hpe.1, h3])
    rw [← this, ← hpe.2]; exact hp

end

theorem Sat.mutate {A : HP} {l : List HP} {h : HL} (hs : Sat (A :: l) h) : ∃ k : HL, k.le h ∧ A k ∧ ∀ (b : Nat) (o o' : Obj) (A' : HP), k b = some o → A' (k.put b o') → Sat (A' :: l) (h.put b o') := by
  obtain ⟨h1, h2, d, a, e, c, f⟩ := hs
  refine ⟨h1, a, c, fun b o o' A' hb hA => ⟨h1.put b o', h2, ?_, ?_, ?_, hA, f⟩⟩
  · intro x
    by_cases hx : x = b
    · subst hx; exact .inr ((d x).resolve_left (by rw [hb]; simp))
    · simp only [HL.put, hx, if_false]; exact d x
  · intro x o'' hx
    by_cases hx' : x = b
    · subst hx'; simpa [HL.put] using hx
    · simp only [HL.put, hx', if_false] at hx ⊢; exact a x o'' hx
  · intro x o'' hx
    by_cases hx' : x = b
    · subst hx'
      have : h2 x = none := (d x).resolve_left (by rw [hb]; simp)
      rw [this] at hx; cases hx
    · simpa [HL.put, hx'] using e x o'' hx
theorem HL.put_at {h : HL} {b : Nat} {o : Obj} : (h.put b o) b = some o := by simp [HL.put]
theorem hl_setObj {w : World} {r : Nat} {o o' : Obj} (hb : w.heap[r]? = some o) : hl { w with heap := w.heap.setIfInBounds r o' } = (hl w).put r o' := by
  funext x
  obtain ⟨h1, h2⟩ := heap_set (o' := o') hb
  by_cases hx : x = r
  · subst hx; simp only [hl, HL.put, if_true]; exact h1
  · simp only [hl, HL.put, hx, if_false]; exact h2 x hx
theorem Sat.back {l : List HP} {i : Nat} {A B : HP} {h : HL} (hi : l[i]? = some A) (hs : Sat (B :: l.eraseIdx i) h) : Sat (l.set i B) h := Sat.perm (set_eq_front hi) hs

section
variable {P : Program} {s : World} {n : Nat} {o : Oper} {e : Env} {l : List HP} {α : Type} {κ : α → Value} {d : TypeDesc} [hκ : Key κ d]

theorem oe_makeMap {T : TypeId} (κ : α → Value) (ho : o.op = .makeMap T none) : OpE P s n o e l (fun u w' => ∃ b : Nat, u = .map (some b) ∧ St s (mp κ b [] :: l) w') := oe_some fun a w hf hs => by
  refine ⟨_, w.alloc (.map #[] 0), ?_, w.heap.size, rfl, ?_⟩
  · simp only [execOp, ho, Option.map_none, run_makeMap, Sem.run_bind, Result.andThen, Sem.run_pure]
  · exact (hs.alloc (.map #[] 0)).mono fun h => Sat.head_mono (fun k hk => ⟨#[], 0, hk, stamped_empty 0, List.Perm.refl _⟩) h

theorem ov_lenM {c : Call} {x : Operand} {T K V : TypeId} {b i : Nat} {m : List (α × Value)} (ho : o.op = .call c) (hc : c = { callee := .builtin .len, args := #[x], argTypes := #[T] }) (hx : opv e x = some (.map (some b))) (hT : P.underlying T = some (.map K V)) (hi : l[i]? = some (mp κ b m)) :
    OpV P n o e l (.int .i64 m.length) := fun a w hf hs => by
  subst hc
  obtain ⟨k, hk, es, clock, h1, h2, h3⟩ := Sat.pick hi hs
  have hb : w.heap[b]? = some (.map es clock) := hk _ _ h1
  simp [execOp, ho, resolve, invoke, builtin, hf.opv hx, Builtin.len_, run_underlying hT, MapKept.run_getObj_map hb, goInt, Result.andThen, mp_size h3]

theorem lookup_run [DecidableEq α] {T K V : TypeId} {b i : Nat} {m : List (α × Value)} {k : α} {z : Value} {w : World} (hT : P.underlying T = some (.map K V)) (hK : P.underlying K = some d) (hz : Zero P V z) (hi : l[i]? = some (mp κ b m)) (hs : Sat l (hl w)) (c : Bool) :
    (Instr.lookup T (.map (some b)) (κ k) c).run P w = .ok (if c then .tuple #[(aget k m).getD z, .bool (aget k m).isSome] else (aget k m).getD z) w := by
  obtain ⟨h', hle, es, clock, h1, h2, h3⟩ := Sat.pick hi hs
  have hb : w.heap[b]? = some (.map es clock) := hle _ _ h1
  rcases find_mp (d := d) h2 h3 k with ⟨f1, f2⟩ | ⟨j, x, f1, _, _, f2⟩
  · simp only [Instr.lookup, Sem.run_bind, run_underlying hT, Result.andThen, MapKept.run_getObj_map hb, Sem.run_pure, run_checkKey hK (hκ.isKey k), run_findKey hK f1, hz.run, f2]
    rfl
  · simp only [Instr.lookup, Sem.run_bind, run_underlying hT, Result.andThen, MapKept.run_getObj_map hb, Sem.run_pure, run_checkKey hK (hκ.isKey k), run_findKey hK f1, f2]
    rfl
theorem ov_lookup [DecidableEq α] {T K V : TypeId} {x y : Operand} {b i : Nat} {m : List (α × Value)} {k : α} {z : Value} (ho : o.op = .lookup T x y false) (hx : opv e x = some (.map (some b))) (hy : opv e y = some (κ k))
    (hT : P.underlying T = some (.map K V)) (hK : P.underlying K = some d) (hz : Zero P V z) (hi : l[i]? = some (mp κ b m)) : OpV P n o e l ((aget k m).getD z) := fun a w hf hs => by
  simp only [execOp, ho, hf.opv hx, hf.opv hy, Sem.run_bind, lookup_run (d := d) hT hK hz hi hs, Bool.false_eq_true, if_false, Result.andThen, Sem.run_pure]
theorem ov_lookupOk [DecidableEq α] {T K V : TypeId} {x y : Operand} {b i : Nat} {m : List (α × Value)} {k : α} {z : Value} (ho : o.op = .lookup T x y true) (hx : opv e x = some (.map (some b))) (hy : opv e y = some (κ k))
    (hT : P.underlying T = some (.map K V)) (hK : P.underlying K = some d) (hz : Zero P V z) (hi : l[i]? = some (mp κ b m)) : OpV P n o e l (.tuple #[(aget k m).getD z, .bool (aget k m).isSome]) := fun a w hf hs => by
  simp only [execOp, ho, hf.opv hx, hf.opv hy, Sem.run_bind, lookup_run (d := d) hT hK hz hi hs, if_true, Result.andThen, Sem.run_pure]

theorem perm_modify {es : Array MapEntry} {j : Nat} {e : MapEntry} (hj : es[j]? = some e) (v : Value) {m : List (α × Value)} [DecidableEq α] {k : α} (hek : e.key = κ k) (h : (es.toList.map fun e => (e.key, e.val)).Perm (m.map fun p => (κ p.1, p.2))) (hn : (m.map (·.1)).Nodup) (hg : aget k m = some e.val) :
    ((es.modify j fun e => { e with key := κ k, val := v }).toList.map fun e => (e.key, e.val)).Perm (((k, v) :: adel k m).map fun p => (κ p.1, p.2)) := by
  have hlt : j < es.size := (Array.getElem?_eq_some_iff.1 hj).1
  have e1 : (es.modify j fun e => { e with key := κ k, val := v }).toList = es.toList.set j { e with key := κ k, val := v } := by
    apply List.ext_getElem?
    intro i
    simp only [Array.getElem?_toList, Array.getElem?_modify, List.getElem?_set, Array.length_toList]
    by_cases hij : j = i
    · subst hij
      have hje : es[j] = e := by rw [Array.getElem?_eq_getElem hlt] at hj; exact Option.some.inj hj
      simp [hlt, hje]
    · simp [hij]
  have hl' : es.toList[j]? = some e := by simpa using hj
  rw [e1]
  have hlt' : j < es.toList.length := by simpa using hlt
  have p1 : (es.toList.set j { e with key := κ k, val := v }).Perm ({ e with key := κ k, val := v } :: es.toList.eraseIdx j) := by
    have := getElem_cons_eraseIdx_perm (l := es.toList.set j { e with key := κ k, val := v }) (i := j) (by simpa using hlt')
    rw [List.eraseIdx_set_eq] at this
    simpa using this.symm
  have p2 : es.toList.Perm (e :: es.toList.eraseIdx j) := by
    have := getElem_cons_eraseIdx_perm hlt'
    rw [List.getElem?_eq_getElem hlt'] at hl'
    rw [Option.some.inj hl'] at this
    exact this.symm
  have p3 : (m.map fun p => (κ p.1, p.2)).Perm ((κ k, e.val) :: (adel k m).map fun p => (κ p.1, p.2)) := (adel_perm hn hg).map _
  have p4 := ((p2.map fun e => (e.key, e.val)).symm.trans h).trans p3
  simp only [List.map_cons, hek] at p4
  have p5 := p4.cons_inv
  refine (p1.map _).trans ?_
  simp only [List.map_cons]
  exact p5.cons _

theorem oe_mapUpdate [DecidableEq α] {T K V : TypeId} {x y z : Operand} {b i : Nat} {m : List (α × Value)} {k : α} {v : Value} (ho : o.op = .mapUpdate T x y z) (hx : opv e x = some (.map (some b))) (hy : opv e y = some (κ k)) (hz : opv e z = some v)
    (hT : P.underlying T = some (.map K V)) (hK : P.underlying K = some d) (hi : l[i]? = some (mp κ b m)) : OpE P s n o e l (fun u w' => ∃ _ : Unit, u = undef ∧ St s (l.set i (mp κ b ((k, v) :: adel k m))) w') := oe_unit fun a w hf hs => by
  obtain ⟨h', hle, ⟨es, clock, h1, h2, h3⟩, hput⟩ := Sat.mutate (Sat.front hi hs.sat)
  have hb : w.heap[b]? = some (.map es clock) := hle _ _ h1
  have hn : (m.map (·.1)).Nodup := mp_nodup (d := d) ⟨es, clock, h1, h2, h3⟩
  rcases find_mp (d := d) h2 h3 k with ⟨f1, f2⟩ | ⟨j, en, f1, f3, f4, f2⟩
  · refine ⟨{ w with heap := w.heap.setIfInBounds b (.map (es.push { key := κ k, val := v, born := clock }) (clock + 1)) }, ?_, (), rfl, hs.put (Sat.back hi ?_) rfl rfl rfl⟩
    · simp only [execOp, ho, hf.opv hx, hf.opv hy, hf.opv hz, Instr.mapUpdate, Sem.run_bind, run_underlying hT, Result.andThen, MapKept.run_getObj_map hb, run_checkKey hK (hκ.isKey k), run_findKey hK f1, run_setObj_map _ hb, Sem.run_pure]
    · rw [hl_setObj hb]
      refine hput b _ _ _ h1 ⟨_, _, HL.put_at, stamped_push h2 fun x hx he => ?_, ?_⟩
      · have h4 : x.key ∈ es.toList.map (·.key) := List.mem_map.2 ⟨x, hx, rfl⟩
        obtain ⟨p, hp, hpe⟩ := List.mem_map.1 ((keys_of h3).mem_iff.1 h4)
        exact aget_none.1 f2 p hp (hκ.inj _ _ (by rw [hpe, he]))
      · simp only [Array.toList_push, List.map_append, List.map_cons, List.map_nil, adel_none f2]
        exact List.perm_append_comm.trans (h3.cons _)
  · refine ⟨{ w with heap := w.heap.setIfInBounds b (.map (es.modify j fun e => { e with key := κ k, val := v }) clock) }, ?_, (), rfl, hs.put (Sat.back hi ?_) rfl rfl rfl⟩
    · simp only [execOp, ho, hf.opv hx, hf.opv hy, hf.opv hz, Instr.mapUpdate, Sem.run_bind, run_underlying hT, Result.andThen, MapKept.run_getObj_map hb, run_checkKey hK (hκ.isKey k), run_findKey hK f1, f3, Option.map_some, Option.getD_some, f4, run_keyThatStays (hκ.isKey k), run_setObj_map _ hb, Sem.run_pure]
    · rw [hl_setObj hb]
      refine hput b _ _ _ h1 ⟨_, _, HL.put_at, stamped_modify h2 _ _ (fun _ _ => rfl) (fun e' _ he' => ?_), perm_modify f3 v f4 h3 hn f2⟩
      rw [f3] at he'; cases he'; exact f4.symm

theorem oe_delete [DecidableEq α] {c : Call} {T K V : TypeId} {x y : Operand} {b i : Nat} {m : List (α × Value)} {k : α} (ho : o.op = .call c) (hc : c = { callee := .builtin .delete, args := #[x, y], argTypes := #[T, K] }) (hx : opv e x = some (.map (some b))) (hy : opv e y = some (κ k))
    (hT : P.underlying T = some (.map K V)) (hK : P.underlying K = some d) (hi : l[i]? = some (mp κ b m)) : OpE P s n o e l (fun u w' => ∃ _ : Unit, u = .tuple #[] ∧ St s (l.set i (mp κ b (adel k m))) w') := oe_ret fun a w hf hs => by
  subst hc
  obtain ⟨h', hle, ⟨es, clock, h1, h2, h3⟩, hput⟩ := Sat.mutate (Sat.front hi hs.sat)
  have hb : w.heap[b]? = some (.map es clock) := hle _ _ h1
  have hn : (m.map (·.1)).Nodup := mp_nodup (d := d) ⟨es, clock, h1, h2, h3⟩
  rcases find_mp (d := d) h2 h3 k with ⟨f1, f2⟩ | ⟨j, en, f1, f3, f4, f2⟩
  · refine ⟨{ w with heap := w.heap.setIfInBounds b (.map es clock) }, ?_, (), rfl, hs.put (Sat.back hi ?_) rfl rfl rfl⟩
    · simp [execOp, ho, resolve, invoke, builtin, hf.opv hx, hf.opv hy, Builtin.delete_, run_underlying hT, Result.andThen, MapKept.run_getObj_map hb, run_checkKey hK (hκ.isKey k), run_findKey hK f1, run_setObj_map _ hb]
    · rw [hl_setObj hb]
      exact hput b _ _ _ h1 ⟨_, _, HL.put_at, h2, by rw [adel_none f2]; exact h3⟩
  · refine ⟨{ w with heap := w.heap.setIfInBounds b (.map (es.eraseIdxIfInBounds j) clock) }, ?_, (), rfl, hs.put (Sat.back hi ?_) rfl rfl rfl⟩
    · simp [execOp, ho, resolve, invoke, builtin, hf.opv hx, hf.opv hy, Builtin.delete_, run_underlying hT, Result.andThen, MapKept.run_getObj_map hb, run_checkKey hK (hκ.isKey k), run_findKey hK f1, run_setObj_map _ hb]
    · rw [hl_setObj hb]
      refine hput b _ _ _ h1 ⟨_, _, HL.put_at, stamped_erase h2 _, ?_⟩
      have hlt : j < es.size := (Array.getElem?_eq_some_iff.1 f3).1
      have e1 : (es.eraseIdxIfInBounds j).toList = es.toList.eraseIdx j := by
        simp only [Array.eraseIdxIfInBounds, hlt, dif_pos, Array.toList_eraseIdx]
      have hlt' : j < es.toList.length := by simpa using hlt
      have hl' : es.toList[j]? = some en := by simpa using f3
      have p2 : es.toList.Perm (en :: es.toList.eraseIdx j) := by
        have := getElem_cons_eraseIdx_perm hlt'
        rw [List.getElem?_eq_getElem hlt'] at hl'
        rw [Option.some.inj hl'] at this
        exact this.symm
      have p3 : (m.map fun p => (κ p.1, p.2)).Perm ((κ k, en.val) :: (adel k m).map fun p => (κ p.1, p.2)) := (adel_perm hn f2).map _
      have p4 := ((p2.map fun e => (e.key, e.val)).symm.trans h3).trans p3
      simp only [List.map_cons, f4] at p4
      rw [e1]
      exact p4.cons_inv

/-! ### ranging: the map does not change meanwhile -/
/-- Blocks b and r are a map of the keys and values m, and a range over it that has yet to come to the keys of rem. -/
def mpit {α : Type} (κ : α → Value) (b r : Nat) (m rem : List (α × Value)) : HP := fun h =>
  ∃ (es : Array MapEntry) (clock : Nat) (seen : Array Nat) (c0 : Nat), h b = some (.map es clock) ∧ Stamped es clock ∧ (es.toList.map fun e => (e.key, e.val)).Perm (m.map fun p => (κ p.1, p.2)) ∧
    h r = some (.mapIter (some b) clock seen c0) ∧ clock ≤ c0 ∧ b ≠ r ∧ ((leftOf es seen).toList.map fun e => (e.key, e.val)).Perm (rem.map fun p => (κ p.1, p.2))
/-- ... the entry that it has just come to is (k, v) -/
def mpat {α : Type} (κ : α → Value) (b r : Nat) (m rem : List (α × Value)) (k v : Value) : HP := fun h =>
  ∃ (es : Array MapEntry) (clock : Nat) (seen : Array Nat) (en : MapEntry), h b = some (.map es clock) ∧ Stamped es clock ∧ (es.toList.map fun e => (e.key, e.val)).Perm (m.map fun p => (κ p.1, p.2)) ∧
    h r = some (.mapIter (some b) clock (seen.push en.born) clock) ∧ b ≠ r ∧ ((leftOf es (seen.push en.born)).toList.map fun e => (e.key, e.val)).Perm (rem.map fun p => (κ p.1, p.2)) ∧ en ∈ es.toList ∧ en.key = k ∧ en.val = v
theorem mpit_of_mpat {b r : Nat} {m rem : List (α × Value)} {k v : Value} : ∀ h, mpat κ b r m rem k v h → mpit κ b r m rem h := fun _ ⟨es, clock, seen, en, h1, h2, h3, h4, h5, h6, _⟩ => ⟨es, clock, _, clock, h1, h2, h3, h4, Nat.le_refl _, h5, h6⟩
theorem mp_of_mpit {b r : Nat} {m rem : List (α × Value)} : ∀ h, mpit κ b r m rem h → mp κ b m h := fun _ ⟨es, clock, _, _, h1, h2, h3, _⟩ => ⟨es, clock, h1, h2, h3⟩

theorem oe_range {T K V : TypeId} {x : Operand} {b i : Nat} {m : List (α × Value)} (ho : o.op = .range T x) (hx : opv e x = some (.map (some b))) (hT : P.underlying T = some (.map K V)) (hi : l[i]? = some (mp κ b m)) :
    OpE P s n o e l (fun u w' => ∃ r : Nat, u = .pointer (some ⟨r, 0, none⟩) ∧ St s (mpit κ b r m m :: l.eraseIdx i) w') := oe_some fun a w hf hs => by
  obtain ⟨h1, h2, dd, le1, le2, ⟨es, clock, e1, e2, e3⟩, hrest⟩ := Sat.front hi hs.sat
  have hb : w.heap[b]? = some (.map es clock) := le1 _ _ e1
  refine ⟨_, w.alloc (.mapIter (some b) clock #[] clock), ?_, w.heap.size, rfl, hs.put ?_ rfl rfl rfl⟩
  · simp only [execOp, ho, hf.opv hx, run_range_map w T K V b es clock hT hb, Sem.run_bind, Result.andThen, Sem.run_pure]
  · have hlt : b < w.heap.size := (Array.getElem?_eq_some_iff.1 hb).1
    have f2 : h2 w.heap.size = none := by
      cases hh : h2 w.heap.size with
      | none => rfl
      | some ob =>
        have := (Array.getElem?_eq_some_iff.1 (le2 _ _ hh)).1
        omega
    rw [hl_alloc]
    refine ⟨h1.put w.heap.size (.mapIter (some b) clock #[] clock), h2, ?_, ?_, ?_, ⟨es, clock, #[], clock, ?_, e2, e3, HL.put_at, Nat.le_refl _, by omega, ?_⟩, hrest⟩
    · intro x
      by_cases hx' : x = w.heap.size
      · subst hx'; exact .inr f2
      · simp only [HL.put, hx', if_false]; exact dd x
    · intro x o'' hx'
      by_cases hx2 : x = w.heap.size
      · subst hx2; simpa [HL.put] using hx'
      · simp only [HL.put, hx2, if_false] at hx' ⊢; exact le1 x o'' hx'
    · intro x o'' hx'
      by_cases hx2 : x = w.heap.size
      · subst hx2; rw [f2] at hx'; cases hx'
      · simpa [HL.put, hx2] using le2 x o'' hx'
    · have : b ≠ w.heap.size := by omega
      simp only [HL.put, this, if_false]; exact e1
    · have : leftOf es #[] = es := by simp [leftOf]
      rw [this]; exact e3

theorem left_push {es : Array MapEntry} {seen : Array Nat} {clock : Nat} (hs : Stamped es clock) {en : MapEntry} (he : en ∈ (leftOf es seen).toList) : (leftOf es seen).toList.Perm (en :: (leftOf es (seen.push en.born)).toList) := by
  have e1 : ∀ sn : Array Nat, (leftOf es sn).toList = es.toList.filter fun e => !sn.contains e.born := fun sn => by simp [leftOf]
  rw [e1] at he ⊢
  rw [e1]
  have hn : (es.toList.map (·.born)).Nodup := hs.2.1
  obtain ⟨hmem, hun⟩ := List.mem_filter.1 he
  clear he hs e1
  generalize es.toList = L at hmem hn
  induction L with
  | nil => cases hmem
  | cons p r ih =>
    simp only [List.map_cons, List.nodup_cons] at hn
    rcases List.mem_cons.1 hmem with rfl | hm
    · have hr : r.filter (fun e => !seen.contains e.born) = r.filter (fun e => !(seen.push en.born).contains e.born) := by
        apply List.filter_congr
        intro y hy
        have hne : y.born ≠ en.born := fun h => hn.1 (List.mem_map.2 ⟨y, hy, h⟩)
        simp [Array.contains_push, hne]
      rw [List.filter_cons, List.filter_cons, hun]
      simp only [if_true, Array.contains_push, BEq.rfl, Bool.or_true, Bool.true_or, Bool.not_true, Bool.false_eq_true, if_false]
      rw [hr]
      refine List.Perm.of_eq (congrArg _ ?_)
      apply List.filter_congr
      intro y _
      rw [Array.contains_push]
    · have hne : p.born ≠ en.born := fun h => hn.1 (List.mem_map.2 ⟨en, hm, h.symm⟩)
      have ih' := ih hm hn.2
      have e2 : (!(seen.push en.born).contains p.born) = (!seen.contains p.born) := by simp [Array.contains_push, hne]
      rw [List.filter_cons, List.filter_cons, e2]
      split
      · exact (ih'.cons _).trans (List.Perm.swap _ _ _)
      · exact ih'

/-- one step of a range: over, or an entry -/
theorem oe_next (hκ : Key κ d) {x : Operand} {b r i : Nat} {m rem : List (α × Value)} (ho : o.op = .next x false) (hx : opv e x = some (.pointer (some ⟨r, 0, none⟩))) (hi : l[i]? = some (mpit κ b r m rem)) :
    OpE P s n o e l (fun u w' => ∃ q : Option (α × Value × List (α × Value)), u = (match q with | none => .tuple #[.bool false] | some (k, v, _) => .tuple #[.bool true, κ k, v]) ∧
      St s ((match q with | none => [fact (rem = []), mp κ b m] | some (k, v, rem') => [fact (rem.Perm ((k, v) :: rem')), fact ((k, v) ∈ m), mpat κ b r m rem' (κ k) v]) ++ l.eraseIdx i) w') := oe_some fun a w hf hs => by
  obtain ⟨h', hle, ⟨es, clock, seen, c0, h1, h2, h3, h4, h5, h6, h7⟩, hput⟩ := Sat.mutate (Sat.front hi hs.sat)
  have hb : w.heap[b]? = some (.map es clock) := hle _ _ h1
  have hr : w.heap[r]? = some (.mapIter (some b) clock seen c0) := hle _ _ h4
  rcases run_next_at (P := P) w o.type r b clock c0 seen es clock hr hb h2.1 h5 with ⟨g1, g2⟩ | ⟨en, g1, w1, g2, g3⟩
  · refine ⟨_, w, ?_, none, rfl, ?_⟩
    · simp only [execOp, ho, hf.opv hx, g2, Sem.run_bind, Result.andThen, Sem.run_pure]
    · have hrem : rem = [] := by
        have := h7.length_eq
        simp only [List.length_map, Array.length_toList, g1] at this
        exact List.length_eq_zero_iff.1 this.symm
      exact ⟨Sat.fact_in hrem (Sat.head_mono mp_of_mpit (Sat.front hi hs.sat)), hs.os, hs.tape, hs.output⟩
  · have p1 := left_push h2 g1
    have p2 := (p1.map fun e => (e.key, e.val)).symm.trans h7
    have hmem : (en.key, en.val) ∈ rem.map fun p => (κ p.1, p.2) := p2.mem_iff.1 (by simp)
    obtain ⟨⟨k, v⟩, hkv, hke⟩ := List.mem_map.1 hmem
    simp only [Prod.mk.injEq] at hke
    obtain ⟨i', hi', hie⟩ := List.getElem_of_mem hkv
    have p3 := getElem_cons_eraseIdx_perm hi'
    rw [hie] at p3
    have p4 : ((leftOf es (seen.push en.born)).toList.map fun e => (e.key, e.val)).Perm ((rem.eraseIdx i').map fun p => (κ p.1, p.2)) := by
      have := p2.trans (p3.map fun p => (κ p.1, p.2)).symm
      simp only [List.map_cons, ← hke.1, ← hke.2] at this
      exact this.cons_inv
    have hen : en ∈ es.toList := by
      have : en ∈ es.toList.filter fun e => !seen.contains e.born := by simpa [leftOf] using g1
      exact (List.mem_filter.1 this).1
    have hin : (k, v) ∈ m := by
      have : (en.key, en.val) ∈ m.map fun p => (κ p.1, p.2) := h3.mem_iff.1 (List.mem_map.2 ⟨en, hen, rfl⟩)
      obtain ⟨p, hp, hpe⟩ := List.mem_map.1 this
      simp only [Prod.mk.injEq] at hpe
      have e5 : p = (k, v) := Prod.ext (hκ.inj _ _ (hpe.1.trans hke.1.symm)) (hpe.2.trans hke.2.symm)
      rw [← e5]; exact hp
    refine ⟨.tuple #[.bool true, en.key, en.val], ChangeMaps.setBlock w1 r (.mapIter (some b) clock (seen.push en.born) clock), ?_, some (k, v, rem.eraseIdx i'), ?_, ?_⟩
    · simp only [execOp, ho, hf.opv hx, g3, Sem.run_bind, Result.andThen, Sem.run_pure]
    · simp only [hke.1, hke.2]
    · have hr1 : w1.heap[r]? = some (.mapIter (some b) clock seen c0) := by rcases g2 with rfl | rfl <;> exact hr
      have hl1 : hl w1 = hl w := by rcases g2 with rfl | rfl <;> rfl
      have ho1 : w1.os = w.os ∧ w1.tape = w.tape ∧ w1.output = w.output := by rcases g2 with rfl | rfl <;> exact ⟨rfl, rfl, rfl⟩
      refine hs.put ?_ ho1.1 ho1.2.1 ho1.2.2
      show Sat _ (hl (ChangeMaps.setBlock w1 r _))
      have : hl (ChangeMaps.setBlock w1 r (.mapIter (some b) clock (seen.push en.born) clock)) = (hl w).put r (.mapIter (some b) clock (seen.push en.born) clock) := by
        rw [← hl1]; exact hl_setObj hr1
      rw [this]
      refine Sat.fact_in p3.symm (Sat.fact_in hin ?_)
      refine hput r _ _ _ h4 ⟨es, clock, seen, en, ?_, h2, h3, HL.put_at, h6, p4, hen, hke.1.symm, hke.2.symm⟩
      simp only [HL.put, h6, if_false]; exact h1

theorem ov_entry {x : Operand} {b r i : Nat} {m rem : List (α × Value)} {k v : Value} (ho : o.op = .entry x) (hx : opv e x = some (.pointer (some ⟨r, 0, none⟩))) (hi : l[i]? = some (mpat κ b r m rem k v)) : OpV P n o e l (.tuple #[k, v]) := fun a w hf hs => by
  obtain ⟨h', hle, es, clock, seen, en, h1, h2, h3, h4, h5, h6, h7, h8, h9⟩ := Sat.pick hi hs
  have := run_entry_at (P := P) w r b clock seen es clock en (hle _ _ h4) (hle _ _ h1) h7 h2.2.1
  simp only [execOp, ho, hf.opv hx, this, Sem.run_bind, Result.andThen, Sem.run_pure, h8, h9]
end
end Go.Proofs.Ytbjdadekheoebaa
