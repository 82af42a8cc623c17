/- Lists of names and values, by rising names: putting, taking away, and how they stand to maps and to parts of memory. It speaks of no program. -/
import Derived.Test.YtbjdadekheoebaaBrid
set_option linter.all false
set_option linter.unusedVariables false
set_option linter.unusedSimpArgs false
set_option linter.unusedSectionVars false
set_option linter.unnecessarySimpa false
namespace Go.Proofs.Ytbjdadekheoebaa
open Go.RowKit Go.Lib

abbrev Nm := List UInt8
def Rising {β : Type} (l : List (Nm × β)) : Prop := (l.map (·.1)).Pairwise (· < ·)
theorem nm_irrefl (a : Nm) : ¬ a < a := List.lt_irrefl a
theorem nm_trans {a b c : Nm} (h : a < b) (k : b < c) : a < c := List.lt_trans h k
theorem nm_asymm {a b : Nm} (h : a < b) : ¬ b < a := fun k => nm_irrefl _ (nm_trans h k)
theorem nm_tri {a b : Nm} (h : ¬ a < b) (k : a ≠ b) : b < a := by
  exact Decidable.byContradiction fun hn => k (List.le_antisymm (List.not_lt.1 hn) (List.not_lt.1 h))

section
variable {β γ : Type}
def aput (k : Nm) (v : β) : List (Nm × β) → List (Nm × β)
  | [] => [(k, v)]
  | (j, u) :: r => if j = k then (k, v) :: r else if k < j then (k, v) :: (j, u) :: r else (j, u) :: aput k v r
theorem Rising.nodup {l : List (Nm × β)} (h : Rising l) : (l.map (·.1)).Nodup := List.Pairwise.imp (fun {a b} (hab : a < b) => show a ≠ b from fun e => nm_irrefl b (e ▸ hab)) h
theorem Rising.tail {p : Nm × β} {l : List (Nm × β)} (h : Rising (p :: l)) : Rising l := (List.pairwise_cons.1 h).2
theorem Rising.head {p : Nm × β} {l : List (Nm × β)} (h : Rising (p :: l)) : ∀ q ∈ l, p.1 < q.1 := fun q hq => (List.pairwise_cons.1 h).1 _ (List.mem_map.2 ⟨q, hq, rfl⟩)
theorem aput_mem {k : Nm} {v : β} : ∀ {l : List (Nm × β)} {q : Nm × β}, q ∈ aput k v l → q = (k, v) ∨ q ∈ l
  | [], q, h => by simp [aput] at h; exact .inl h
  | (j, u) :: r, q, h => by
    simp only [aput] at h
    split at h
    · rcases List.mem_cons.1 h with h | h
      · exact .inl h
      · exact .inr (List.mem_cons_of_mem _ h)
    · split at h
      · rcases List.mem_cons.1 h with h | h
        · exact .inl h
        · exact .inr h
      · rcases List.mem_cons.1 h with h | h
        · exact .inr (by rw [h]; simp)
        · rcases aput_mem h with h | h
          · exact .inl h
          · exact .inr (List.mem_cons_of_mem _ h)
theorem aput_rising {k : Nm} {v : β} : ∀ {l : List (Nm × β)}, Rising l → Rising (aput k v l)
  | [], _ => by simp [aput, Rising]
  | (j, u) :: r, h => by
    simp only [aput]
    split
    · rename_i e; subst e; exact h
    · rename_i hne
      split
      · rename_i hlt
        refine List.pairwise_cons.2 ⟨fun a ha => ?_, h⟩
        obtain ⟨q, hq, rfl⟩ := List.mem_map.1 ha
        rcases List.mem_cons.1 hq with rfl | hq
        · exact hlt
        · exact nm_trans hlt (h.head q hq)
      · rename_i hnl
        refine List.pairwise_cons.2 ⟨fun a ha => ?_, aput_rising h.tail⟩
        obtain ⟨q, hq, rfl⟩ := List.mem_map.1 ha
        rcases aput_mem hq with rfl | hq
        · exact nm_tri hnl (Ne.symm hne)
        · exact h.head q hq
theorem aget_lt {k : Nm} {l : List (Nm × β)} (h : ∀ q ∈ l, k < q.1) : aget k l = none := aget_none.2 fun q hq e => nm_irrefl _ (e ▸ h q hq)
theorem aput_perm {k : Nm} {v : β} : ∀ {l : List (Nm × β)}, Rising l → (aput k v l).Perm ((k, v) :: adel k l)
  | [], _ => by simp [aput, adel]
  | (j, u) :: r, h => by
    simp only [aput]
    split
    · rename_i e; subst e
      have h1 := adel_none (aget_lt h.head)
      simp only [adel, ne_eq, List.filter_cons, not_true_eq_false, decide_false, Bool.false_eq_true, if_false] at h1 ⊢
      rw [h1]
    · rename_i hne
      have hd : adel k ((j, u) :: r) = (j, u) :: adel k r := by simp [adel, hne]
      rw [hd]
      split
      · rename_i hlt
        rw [adel_none (aget_lt fun q hq => nm_trans hlt (h.head q hq))]
      · exact ((aput_perm h.tail).cons _).trans (List.Perm.swap _ _ _)
theorem aput_map {k : Nm} {v : β} {f : β → γ} : ∀ {l : List (Nm × β)}, (aput k v l).map (fun p => (p.1, f p.2)) = aput k (f v) (l.map fun p => (p.1, f p.2))
  | [] => rfl
  | (j, u) :: r => by
    simp only [aput, List.map_cons]
    split
    · rfl
    · split
      · rfl
      · simp [aput_map]
theorem aput_same {k : Nm} {v : β} : ∀ {l : List (Nm × β)}, Rising l → aget k l = some v → aput k v l = l
  | (j, u) :: r, hr, h => by
    simp only [aget] at h
    simp only [aput]
    split
    · rename_i e; subst e; simp at h; subst h; rfl
    · rename_i hne
      simp only [hne, if_false] at h
      have hm := aget_mem h
      have hlt := hr.head _ hm
      simp only [nm_asymm hlt, if_false]
      rw [aput_same hr.tail h]
theorem aget_aput {k j : Nm} {v : β} : ∀ {l : List (Nm × β)}, Rising l → aget j (aput k v l) = if j = k then some v else aget j l
  | [], _ => by
    simp only [aput, aget]
    split
    · rename_i e; subst e; simp
    · rename_i e; simp [Ne.symm e]
  | (i, u) :: r, h => by
    simp only [aput]
    split
    · rename_i e; subst e
      simp only [aget]
      split
      · rename_i e; subst e; simp
      · rename_i e; simp [Ne.symm e]
    · rename_i hik
      split
      · rename_i hlt
        simp only [aget]
        by_cases hjk : k = j
        · subst hjk; simp
        · simp [hjk, Ne.symm hjk]
      · simp only [aget]
        rw [aget_aput h.tail]
        by_cases hij : i = j
        · subst hij; simp [hik]
        · simp [hij]
theorem adel_rising {k : Nm} {l : List (Nm × β)} (h : Rising l) : Rising (adel k l) := List.Pairwise.sublist (List.filter_sublist.map _) h
theorem aput_len {k : Nm} {v : β} {l : List (Nm × β)} (h : Rising l) : (aput k v l).length ≤ l.length + 1 := by
  have := (aput_perm (k := k) (v := v) h).length_eq
  rw [this]
  simp only [List.length_cons, adel]
  have := List.length_filter_le (fun p : Nm × β => decide (p.1 ≠ k)) l
  omega
theorem aput_len_old {k : Nm} {v u : β} {l : List (Nm × β)} (h : Rising l) (hu : aget k l = some u) : (aput k v l).length = l.length := by
  have h1 := (aput_perm (k := k) (v := v) h).length_eq
  have h2 := (adel_perm h.nodup hu).length_eq
  rw [h1, h2]; simp
theorem adel_len {k : Nm} {l : List (Nm × β)} : (adel k l).length ≤ l.length := List.length_filter_le _ _
theorem aget_adel {k j : Nm} : ∀ {l : List (Nm × β)}, aget j (adel k l) = if j = k then none else aget j l
  | [] => by simp [adel, aget]
  | (i, u) :: r => by
    have ih := aget_adel (k := k) (j := j) (l := r)
    by_cases hik : i = k
    · subst hik
      have : adel i ((i, u) :: r) = adel i r := by simp [adel]
      rw [this, ih]
      by_cases hji : j = i
      · simp [hji]
      · simp [hji, aget, Ne.symm hji]
    · have : adel k ((i, u) :: r) = (i, u) :: adel k r := by simp [adel, hik]
      rw [this]
      simp only [aget]
      rw [ih]
      by_cases hij : i = j
      · subst hij; simp [hik]
      · simp [hij]
end

/-- the names, sorted -/
theorem sortS_keys {β : Type} {l : List (Nm × β)} {ks : List Nm} (h : Rising l) (p : ks.Perm (l.map (·.1))) : sortS ks = l.map (·.1) := by
  have hs : (sortS ks).Pairwise (fun a b => decide (a ≤ b) = true) := List.pairwise_mergeSort (le := fun x y => decide (x ≤ y)) (fun a b c h k => by simp only [decide_eq_true_eq] at *; exact List.le_trans h k) (fun a b => by simp only [Bool.or_eq_true, decide_eq_true_eq]; exact List.le_total a b) ks
  have hp : (sortS ks).Perm (l.map (·.1)) := (List.mergeSort_perm ks _).trans p
  refine List.Perm.eq_of_pairwise (le := fun a b => decide (a ≤ b) = true) (fun a b _ _ h k => ?_) hs (List.Pairwise.imp (fun h => ?_) h) hp
  · simp only [decide_eq_true_eq] at h k; exact List.le_antisymm h k
  · simp only [decide_eq_true_eq]; exact List.le_of_lt h

/-! ### many parts, one for each entry -/
def all {α : Type} (f : α → HP) (l : List α) : HP := sep (l.map f)
theorem all_perm {α : Type} {f : α → HP} {l l' : List α} (p : l.Perm l') : ∀ h, all f l h → all f l' h := fun _ hs => Sat.perm (p.map f) hs
theorem sat_all_take {α : Type} {f : α → HP} {l : List α} {x : α} {r : List α} {L : List HP} (i : Nat) (hi : L[i]? = some (all f l)) (p : l.Perm (x :: r)) : ∀ h, Sat L h → Sat (f x :: all f r :: L.eraseIdx i) h := fun h hs => by
  have h1 := Sat.head_mono (all_perm p) (Sat.front hi hs)
  have h2 : Sat ([f x] ++ (r.map f) ++ L.eraseIdx i) h := Sat.flat (l1 := (x :: r).map f) h1
  exact Sat.tail_mono (fun k hk => Sat.pack (r.map f) hk) h2
theorem sat_all_put {α : Type} {f : α → HP} {l : List α} {x : α} {r : List α} {L : List HP} (p : (x :: r).Perm l) : ∀ h, Sat (f x :: all f r :: L) h → Sat (all f l :: L) h := fun h hs => by
  have h1 : Sat (f x :: ((r.map f) ++ L)) h := Sat.tail_mono (fun k hk => Sat.flat hk) hs
  have h2 : Sat (all f (x :: r) :: L) h := Sat.pack ((x :: r).map f) h1
  exact Sat.head_mono (all_perm p) h2
theorem all_nil {α : Type} {f : α → HP} {L : List HP} : ∀ h, Sat L h → Sat (all f [] :: L) h := fun _ hs => Sat.pack [] hs
theorem xj_eq {s : World} {Q : Exit → Act → World → Prop} {x : Exit} {n : Nat} {e e' : Env} {l l' : List HP} (he : e = e') (hl : l = l') (k : XJ s Q x n e' l') : XJ s Q x n e l := by subst he; subst hl; exact k
theorem xj_sat {s : World} {Q : Exit → Act → World → Prop} {x : Exit} {n : Nat} {e : Env} {l l' : List HP} (hs : ∀ h, Sat l h → Sat l' h) (k : XJ s Q x n e l') : XJ s Q x n e l := xj_weak (fun _ _ h => h) hs k
end Go.Proofs.Ytbjdadekheoebaa
