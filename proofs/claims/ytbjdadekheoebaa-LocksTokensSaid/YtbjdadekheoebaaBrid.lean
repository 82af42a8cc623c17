/- The library's contracts off the shelf (slices.Insert, slices.BinarySearch, sort.Strings) in the words of the logic of separated memory. It speaks of no program. -/
import Derived.Test.YtbjdadekheoebaaOps4
import Derived.Shelf.Spec.SlicesInsert
import Derived.Shelf.Spec.SlicesInsertGrow
import Derived.Shelf.Slices.SearchI
import Derived.Shelf.Slices.Empties
import Derived.Shelf.Slices.In.SortNone2
import Derived.Shelf.Sort.Plain
set_option linter.all false
set_option linter.unusedVariables false
set_option linter.unusedSimpArgs false
set_option linter.unusedSectionVars false
set_option linter.unnecessarySimpa false
namespace Go.Proofs.Ytbjdadekheoebaa
open Go.RowKit Go.Lib Go.Shelf

section
variable {P : Program} {ρ : Ren}

theorem hl_setCells {b : Nat} : ∀ (vs : List Value) (off : Nat) (w : World) (c : Array Value) (T : TypeId) (fz : Nat × Nat), w.heap[b]? = some (.cells c T fz) →
    hl (w.setCells b off vs) = (hl w).put b (.cells (vs.zipIdx.foldl (fun c (v, j) => c.setIfInBounds (off + j) v) c) T fz) ∧ (w.setCells b off vs).os = w.os ∧ (w.setCells b off vs).tape = w.tape ∧ (w.setCells b off vs).output = w.output
  | [], off, w, c, T, fz, hb => ⟨by funext x; simp only [hl, HL.put, World.setCells, List.zipIdx_nil, List.foldl_nil]; split <;> simp_all, rfl, rfl, rfl⟩
  | v :: vs, off, w, c, T, fz, hb => by
    have hb' : (w.setCell ⟨b, off, none⟩ v).heap[b]? = some (.cells (c.setIfInBounds off v) T fz) := by
      have := congrFun (hl_setCell w b off v c T fz hb) b
      simpa [hl, HL.put] using this
    obtain ⟨h1, h2, h3, h4⟩ := hl_setCells vs (off + 1) _ _ T fz hb'
    refine ⟨?_, h2, h3, h4⟩
    show hl ((w.setCell ⟨b, off, none⟩ v).setCells b (off + 1) vs) = _
    rw [h1, hl_setCell w b off v c T fz hb]
    funext x
    simp only [HL.put]
    split
    · congr 2
      simp only [List.zipIdx_cons, List.foldl_cons, Nat.add_zero, Nat.zero_add]
      rw [List.zipIdx_succ, List.foldl_map]
      congr 1
      funext c p
      rw [show off + 1 + p.2 = off + (p.2 + 1) by omega]
    · rfl
theorem heap_of_hl {w : World} {h : HL} {b : Nat} {o : Obj} (e : hl w = h.put b o) : w.heap[b]? = some o := by
  have := congrFun e b; simpa [hl, HL.put] using this
theorem put_put {h : HL} {b : Nat} {o o' : Obj} : (h.put b o).put b o' = h.put b o' := by
  funext x; simp only [HL.put]; split <;> rfl

theorem put_left {A' : HP} {l : List HP} {k1 k2 h : HL} {b : Nat} {o o' : Obj} (d : k1.apart k2) (a : k1.le h) (e : k2.le h) (f : Sat l k2) (hb : k1 b = some o) (hA : A' (k1.put b o')) : Sat (A' :: l) (h.put b o') := by
  refine ⟨k1.put b o', k2, ?_, ?_, ?_, hA, f⟩
  · intro x
    by_cases hx : x = b
    · subst hx; exact .inr ((d x).resolve_left (by rw [hb]; simp))
    · simp only [HL.put, hx, if_false]; exact d x
  · intro x o'' hx
    by_cases hx' : x = b
    · subst hx'; simpa [HL.put] using hx
    · simp only [HL.put, hx', if_false] at hx ⊢; exact a x o'' hx
  · intro x o'' hx
    by_cases hx' : x = b
    · subst hx'
      have : k2 x = none := (d x).resolve_left (by rw [hb]; simp)
      rw [this] at hx; cases hx
    · simpa [HL.put, hx'] using e x o'' hx

theorem splice2 {L p q : List Value} {v : Value} {i : Nat} (hp : L.take i = p) (hl : i + 1 + q.length ≤ L.length) : (splice (splice L i [v]) (i + 1) q).take (i + 1 + q.length) = p ++ v :: q := by
  have h1 : (L.take i ++ [v]).length = i + 1 := by simp; omega
  have e1 : splice L i [v] = (L.take i ++ [v]) ++ L.drop (i + 1) := by simp [splice]
  have h2 : splice (splice L i [v]) (i + 1) q = (L.take i ++ [v]) ++ q ++ ((L.take i ++ [v]) ++ L.drop (i + 1)).drop (i + 1 + q.length) := by
    rw [e1]; simp only [splice]
    rw [List.take_append_of_le_length (by omega), List.take_of_length_le (by omega)]
  rw [h2, List.take_append_of_le_length (by rw [List.length_append, h1]; omega), List.take_of_length_le (by rw [List.length_append, h1]; omega), hp]
  simp

theorem splice2r {L p q : List Value} {v : Value} {i : Nat} (hp : L.take i = p) (hl : i + 1 + q.length ≤ L.length) : (splice (splice L (i + 1) q) i [v]).take (i + 1 + q.length) = p ++ v :: q := by
  have h1 : (L.take (i + 1)).length = i + 1 := by simp; omega
  have e1 : splice L (i + 1) q = L.take (i + 1) ++ (q ++ L.drop (i + 1 + q.length)) := by simp [splice]
  have h2 : splice (splice L (i + 1) q) i [v] = p ++ v :: (q ++ L.drop (i + 1 + q.length)) := by
    rw [e1]; simp only [splice, List.length_singleton]
    rw [List.take_append_of_le_length (by omega), List.take_take, Nat.min_eq_left (by omega), hp]
    rw [List.drop_left' h1]
    simp
  have h3 : (p ++ v :: q).length = i + 1 + q.length := by rw [← hp]; simp; omega
  rw [h2, ← h3, show p ++ v :: (q ++ L.drop ((p ++ v :: q).length)) = (p ++ v :: q) ++ L.drop ((p ++ v :: q).length) by simp]
  exact List.take_left

theorem cells_some {w : World} {b off : Nat} {c : Array Value} {T : TypeId} {fz : Nat × Nat} (hb : w.heap[b]? = some (.cells c T fz)) (h : off < c.size) : (w.cell? ⟨b, off, none⟩).isSome = true := by
  simp [World.cell?, hb, h]
theorem cells_froz {w : World} {b off : Nat} {c : Array Value} {T : TypeId} (hb : w.heap[b]? = some (.cells c T (0, 0))) : w.frozen? ⟨b, off, none⟩ = false := by
  simp [World.frozen?, hb]
theorem cells_get {w : World} {b off : Nat} {c : Array Value} {T : TypeId} {fz : Nat × Nat} {v : Value} (hb : w.heap[b]? = some (.cells c T fz)) (h : c[off]? = some v) : w.cell? ⟨b, off, none⟩ = some v := by
  simp [World.cell?, hb, h]

/-- slices.Insert(s, i, v), of ints -/
theorem spec_insert (L : Lays2.n21 P ρ) (a : Option Addr) (m c i vb : Nat) (xs : List Value) (v : Value) (TE : TypeId) (hi : i ≤ m) (hm : m ≤ 1099511627776) (h1 : ∀ u ∈ xs, u.oneCell' = true) (hv : v.oneCell' = true) :
    Spec P (ρ.f 21) [.slice a m c, .int .i64 (i : Int), .slice (some ⟨vb, 0, none⟩) 1 1] [sl (ρ.t 3) 1 a m c xs, pts vb (.cells #[v] TE (0, 0))]
      (fun q : Option Addr × Nat => .slice q.1 (m + 1) q.2) (fun q => [sl (ρ.t 3) 1 q.1 (m + 1) q.2 (xs.take i ++ v :: xs.drop i)]) := fun F s w hw => by
  obtain ⟨k1, k2, d, le1, le2, hsl, hrest⟩ := hw.sat
  have hxl : xs.length = m := by simpa using hsl.1
  have hF : Sat [F] (hl w) := (hrest.drop1).up le2
  have hvb : w.heap[vb]? = some (.cells #[v] TE (0, 0)) := by
    obtain ⟨q, hq, e⟩ := Sat.pick (i := 0) rfl hrest; exact le2 _ _ (hq _ _ e)
  have hcap := sl_le hsl
  have hmx : maxLen = 1152921504606846976 ∨ True := .inr trivial
  have hvs : ∀ j u, ([v] : List Value)[j]? = some u → w.cell? ⟨vb, 0 + j, none⟩ = some u := fun j u hj => by
    have : j = 0 := by
      rcases j with _ | j
      · rfl
      · simp at hj
    subst this; simp at hj; subst hj; exact cells_get hvb (by simp)
  have h1v : ∀ u ∈ [v], u.oneCell' = true := by simpa using hv
  have hcx : ∀ (ad : Addr), a = some ad → ∀ j u, xs[j]? = some u → w.cell? (ad.add j) = some u := fun ad ha j u hj => by
    subst ha
    have hm0 : 0 < m := by rw [← hxl]; exact Nat.lt_of_le_of_lt (Nat.zero_le _) (List.getElem?_eq_some_iff.1 hj).1
    obtain ⟨g, e⟩ := sl_some hsl hm0
    cases e
    obtain ⟨cur, e1, _, _, _, e5⟩ := sl_cells hsl hm0
    rw [Addr.add_lit]
    refine cells_get (le1 _ _ e1) ?_
    rw [← e5, List.getElem?_take] at hj
    split at hj
    · simpa using hj
    · cases hj
  have hone : ∀ u ∈ xs, u.oneCell' = true := h1
  -- a new row, what lay there before forgotten
  have fresh : ∀ (w0 : World) (cs : Array Value) (cp : Nat), hl w0 = hl w → w0.os = w.os → w0.tape = w.tape → w0.output = w.output → m + 1 ≤ cp → cp ≤ maxLen → cs.size = cp → cs.toList.take (m + 1) = xs.take i ++ v :: xs.drop i →
      ∀ w' : World, hl w' = (hl w0).put w.heap.size (.cells cs (ρ.t 3) (0, 0)) → w'.os = w.os → w'.tape = w.tape → w'.output = w.output →
      ∃ q : Option Addr × Nat, (Ending.returned (.slice (some ⟨w.heap.size, 0, none⟩) (m + 1) cp)) = .returned (.slice q.1 (m + 1) q.2) ∧ St s ([sl (ρ.t 3) 1 q.1 (m + 1) q.2 (xs.take i ++ v :: xs.drop i)] ++ [F]) w' := by
    intro w0 cs cp e0 _ _ _ hc1 hc2 hc3 hc4 w' e1 o1 o2 o3
    refine ⟨(some ⟨w.heap.size, 0, none⟩, cp), rfl, ⟨?_, o1.trans hw.os, o2.trans hw.tape, o3.trans hw.output⟩⟩
    rw [e1, e0]
    refine Sat.head_mono ?_ (Sat.new (hl_fresh w) hF)
    intro k hk
    exact ⟨by simp; omega, .inr ⟨_, cs, rfl, hk, hc1, hc2, by simpa using hc3, by simpa using hc4⟩⟩
  have hlen63 : (m + 1) * 8 ≤ 140737488355328 := by omega
  have hmax : m + 1 ≤ maxLen := by unfold maxLen; omega
  by_cases him : i = m
  · subst him
    have etake : xs.take i = xs := List.take_of_length_le (by omega)
    have edrop : xs.drop i = [] := List.drop_of_length_le (by omega)
    by_cases hroom : c < i + 1
    · refine Calls.mono (Any2.slices_Insert_int_end_grow L a i c vb 0 1 1 xs [v] w (by omega) hcap.1 hroom hlen63 hxl rfl (fun ha => ?_) (fun ad ha => hcx ad ha) hvs h1v) ?_
      · rcases Nat.eq_zero_or_pos i with h | h
        · exact h
        · obtain ⟨g, e⟩ := sl_some hsl h; rw [ha] at e; cases e
      · rintro en w' ⟨rfl, rfl⟩
        refine fresh w.drew _ _ rfl rfl rfl rfl (grownCap_ge w (i + 1) c (ρ.t 3)) (grownCap_le_maxLen w (i + 1) c (ρ.t 3) hmax) ?_ ?_ _ (hl_alloc _ _) rfl rfl rfl
        · have := grownCap_ge w (i + 1) c (ρ.t 3)
          simp only [Array.size_append, List.size_toArray, size_zeroCells, Value.cells, List.length_append, List.length_singleton, hxl]
          simp; omega
        · rw [etake, edrop]
          simp only [Array.toList_append]
          have : (xs ++ [v]).length = i + 1 := by simp [hxl]
          rw [← this]; exact List.take_left
    · rcases hsl.2 with ⟨e1, e2⟩ | ⟨g, cur, rfl, e1, e2, e3, e4, e5⟩
      · omega
      · have hb : w.heap[g]? = some (.cells cur (ρ.t 3) (0, 0)) := le1 _ _ e1
        have e4' : cur.size = c := by simpa using e4
        refine Calls.mono (Any2.slices_Insert_int_end_room L g 0 i c vb 0 1 1 [v] w (by omega) (by omega) (by simp only [maxLen] at e3; omega) rfl (fun j hj => cells_some hb (by omega)) (fun j hj => cells_froz hb) hvs h1v) ?_
        rintro en w' ⟨rfl, rfl⟩
        obtain ⟨r1, r2, r3, r4⟩ := hl_setCells [v] (0 + i) w cur (ρ.t 3) (0, 0) hb
        refine ⟨(some ⟨g, 0, none⟩, c), rfl, ⟨?_, r2.trans hw.os, r3.trans hw.tape, r4.trans hw.output⟩⟩
        rw [r1]
        refine put_left d le1 le2 hrest.drop1 e1 ?_
        · have hf := fold_set [v] cur (0 + i) (by simp; omega)
          refine ⟨by simp [hxl], .inr ⟨g, _, rfl, HL.put_at, by omega, e3, ?_, ?_⟩⟩
          · have := congrArg List.length hf
            rw [splice_length (by simp; omega)] at this
            simpa [e4'] using this
          · rw [hf, etake, edrop]
            have : splice cur.toList (0 + i) [v] = xs ++ [v] ++ cur.toList.drop (0 + i + 1) := by
              simp only [splice, List.length_singleton, Nat.zero_add]
              rw [← e5]; simp
            rw [this]
            have h3 : (xs ++ [v]).length = (i + 1) * 1 := by simp [hxl]
            rw [← h3]; exact List.take_left
  · have hlt : i < m := by omega
    obtain ⟨g, rfl⟩ := sl_some hsl (by omega)
    obtain ⟨cur, e1, e2, e3, e4, e5⟩ := sl_cells hsl (by omega)
    have e4' : cur.size = c := by simpa using e4
    have e5' : cur.toList.take m = xs := by simpa using e5
    have hb : w.heap[g]? = some (.cells cur (ρ.t 3) (0, 0)) := le1 _ _ e1
    have hcx' : ∀ j u, xs[j]? = some u → w.cell? ⟨g, 0 + j, none⟩ = some u := fun j u hj => by have := hcx _ rfl j u hj; rwa [Addr.add_lit] at this
    by_cases hroom : m + 1 ≤ c
    · have hne : vb ≠ g := by
        intro h; subst h
        have h1 := e1
        obtain ⟨q, hq, e⟩ := Sat.pick (i := 0) rfl hrest
        have h2 := hq _ _ e
        rcases d vb with h | h
        · rw [h] at h1; cases h1
        · rw [h] at h2; cases h2
      refine Calls.mono (Any2.slices_Insert_int_shift L g 0 m c i vb 0 1 1 xs [v] w hlt (by omega) hroom (by simp only [maxLen] at e3; omega) hne hxl rfl hcx' (fun j hj => cells_some hb (by omega)) (fun j hj => cells_froz hb) hvs hone h1v TE (ρ.t 3) 1 c
        (by simp [World.shape?, hvb]) (by simp [World.shape?, hb, e4']) (by omega) (cells_froz hvb) (cells_froz hvb)) ?_
      rintro en w' ⟨rfl, rfl⟩
      obtain ⟨r1, r2, r3, r4⟩ := hl_setCells (xs.drop i) (0 + (i + 1)) w.drew cur (ρ.t 3) (0, 0) hb
      obtain ⟨q1, q2, q3, q4⟩ := hl_setCells [v] (0 + i) (w.drew.setCells g (0 + (i + 1)) (xs.drop i)) _ (ρ.t 3) (0, 0) (heap_of_hl r1)
      refine ⟨(some ⟨g, 0, none⟩, c), rfl, ⟨?_, (q2.trans r2).trans hw.os, (q3.trans r3).trans hw.tape, (q4.trans r4).trans hw.output⟩⟩
      rw [q1, r1, put_put]
      refine put_left d le1 le2 hrest.drop1 e1 ?_
      have hf1 := fold_set (xs.drop i) cur (0 + (i + 1)) (by simp [hxl]; omega)
      have hl1 := congrArg List.length hf1
      rw [splice_length (by simp [hxl]; omega)] at hl1
      have hf2 := fold_set [v] ((xs.drop i).zipIdx.foldl (fun c (v, j) => c.setIfInBounds (0 + (i + 1) + j) v) cur) (0 + i) (by simp only [Array.length_toList] at hl1; simp only [List.length_singleton, hl1]; omega)
      refine ⟨by simp [hxl]; omega, .inr ⟨g, _, rfl, HL.put_at, by omega, e3, ?_, ?_⟩⟩
      · have := congrArg List.length hf2
        rw [splice_length (by rw [hl1]; simp; omega), hl1] at this
        simpa [e4'] using this
      · have h5 := splice2r (q := xs.drop i) (v := v) (show cur.toList.take i = xs.take i by rw [← e5', List.take_take, Nat.min_eq_left (by omega)]) (by simp [hxl]; omega)
        rw [show i + 1 + (xs.drop i).length = (m + 1) * 1 by simp [hxl]; omega] at h5
        have h6 := hf2.trans (congrArg (fun z => splice z (0 + i) [v]) hf1)
        simp only [Nat.zero_add] at h6 ⊢
        exact (congrArg (List.take ((m + 1) * 1)) h6).trans h5
    · refine Calls.mono (Any2.slices_Insert_int_grow L g 0 m c i vb 0 1 1 xs [v] w hlt (by omega) e2 (by omega) hlen63 hxl rfl hcx' hvs hone h1v) ?_
      rintro en w' ⟨rfl, rfl⟩
      have hge := grownCap_ge w (m + 1) c (ρ.t 3)
      have hle := grownCap_le_maxLen w (m + 1) c (ρ.t 3) hmax
      generalize grownCap w (m + 1) c (ρ.t 3) = cp at hge hle ⊢
      generalize hA : (xs.take i).toArray ++ Builtin.zeroCells (Value.int .i64 0).cells (m + 1 - i) ++ Builtin.zeroCells (Value.int .i64 0).cells (cp - (m + 1)) = A
      have hAs : A.size = cp := by
        rw [← hA]; simp only [Array.size_append, size_zeroCells, Value.cells, List.size_toArray, List.length_take, hxl]; simp; omega
      have hAt : A.toList.take i = xs.take i := by
        rw [← hA]; simp only [Array.toList_append, List.append_assoc]
        rw [List.take_append_of_le_length (by simp; omega), List.take_of_length_le (by simp; omega)]
      have hb0 : ((w.alloc (.cells A (ρ.t 3))).drew).heap[w.heap.size]? = some (.cells A (ρ.t 3) (0, 0)) := heap_alloc_new w _
      obtain ⟨r1, r2, r3, r4⟩ := hl_setCells [v] i (w.alloc (.cells A (ρ.t 3))).drew A (ρ.t 3) (0, 0) hb0
      have hb1 : (((w.alloc (.cells A (ρ.t 3))).drew.setCells w.heap.size i [v]).drew).heap[w.heap.size]? = some (.cells _ (ρ.t 3) (0, 0)) := heap_of_hl r1
      obtain ⟨q1, q2, q3, q4⟩ := hl_setCells (xs.drop i) (i + 1) ((w.alloc (.cells A (ρ.t 3))).drew.setCells w.heap.size i [v]).drew _ (ρ.t 3) (0, 0) hb1
      have hf1 := fold_set [v] A i (by simp; omega)
      have hl1 := congrArg List.length hf1
      rw [splice_length (by simp; omega)] at hl1
      have hf2 := fold_set (xs.drop i) ([v].zipIdx.foldl (fun c (v, j) => c.setIfInBounds (i + j) v) A) (i + 1) (by simp only [Array.length_toList] at hl1; simp only [List.length_drop, hl1, hxl]; omega)
      have hl2 := congrArg List.length hf2
      rw [splice_length (by rw [hl1]; simp [hxl]; omega), hl1] at hl2
      refine fresh w _ cp rfl rfl rfl rfl hge hle (by simpa [hAs] using hl2) ?_ _ (q1.trans ?_) (q2.trans r2) (q3.trans r3) (q4.trans r4)
      · have h6 := hf2.trans (congrArg (fun z => splice z (i + 1) (xs.drop i)) hf1)
        have := splice2 (q := xs.drop i) (v := v) hAt (by simp [hxl]; omega)
        rw [show i + 1 + (xs.drop i).length = m + 1 by simp [hxl]; omega] at this
        exact (congrArg (List.take (m + 1)) h6).trans this
      · show (hl ((w.alloc (.cells A (ρ.t 3))).drew.setCells w.heap.size i [v])).put _ _ = _
        rw [r1]
        show (HL.put (HL.put (hl (w.alloc (.cells A (ρ.t 3)))) _ _) _ _) = _
        rw [put_put, hl_alloc, put_put]
        rfl

/-- slices.BinarySearch(s, x), of rising ints -/
theorem spec_search (L : Lays2.n25 P ρ) (enc : Int → List Value) (henc : ∀ z, enc z = [.int .i64 z]) (E : Nat) (a : Option Addr) (c : Nat) (zs : List Int) (x : Int) (hz : zs.length ≤ 1099511627776) (hs : zs.Pairwise (· ≤ ·)) :
    Spec P (ρ.f 25) [.slice a zs.length c, .int .i64 x] [sl E 1 a zs.length c (zs.flatMap enc)] (fun _ : Unit => .tuple #[.int .i64 ((zs.countP (fun y => decide (y < x)) : Nat) : Int), .bool (zs.contains x)]) (fun _ => [sl E 1 a zs.length c (zs.flatMap enc)]) := fun F s w hw => by
  have hflat : zs.flatMap enc = zs.map fun z => .int .i64 z := by
    rw [show enc = fun z => [Value.int .i64 z] from funext henc]; clear hs hw hz; induction zs with
    | nil => rfl
    | cons z r ih => simp [ih]
  rcases Nat.eq_zero_or_pos zs.length with h0 | h0
  · have : zs = [] := List.length_eq_zero_iff.1 h0
    subst this
    refine Calls.mono (Any.slices_BinarySearch_int_empty L a c x w) ?_
    rintro en w' ⟨rfl, rfl⟩
    exact ⟨(), rfl, hw⟩
  · obtain ⟨k1, k2, d, le1, le2, hsl, hrest⟩ := hw.sat
    obtain ⟨g, rfl⟩ := sl_some hsl h0
    obtain ⟨cur, e1, e2, e3, e4, e5⟩ := sl_cells hsl h0
    have hb : w.heap[g]? = some (.cells cur E (0, 0)) := le1 _ _ e1
    refine Calls.mono (Any.slices_BinarySearch_int L g 0 zs.length c zs x w (Nat.le_refl _) (by omega) (fun j hj => cells_get hb ?_) (by rwa [List.take_length])) ?_
    · have h1 : (zs.flatMap enc)[j]? = some (.int .i64 (zs.getD j 0)) := by
        rw [hflat, List.getElem?_map, List.getElem?_eq_getElem hj]; simp [List.getD, hj]
      rw [← e5, List.getElem?_take] at h1
      split at h1
      · simpa using h1
      · cases h1
    · rintro en w' ⟨rfl, q, rfl⟩
      refine ⟨(), by rw [List.take_length], ⟨?_, hw.os, hw.tape, hw.output⟩⟩
      exact hw.sat

theorem perm_flat {τ : Type} {enc : τ → List Value} {k : Nat} (hk : ∀ x, (enc x).length = k) {xs ys : List τ} (h : xs.length = ys.length) : (xs.flatMap enc).length = (ys.flatMap enc).length := by
  rw [flat_len hk, flat_len hk, h]
/-- strings as elements -/
def es (t : List UInt8) : List Value := [encS t]
theorem es_len : ∀ t, (es t).length = 1 := fun _ => rfl
theorem es_one : ∀ t, ∀ u ∈ es t, u.oneCell' = true := by intro t u hu; simp [es] at hu; subst hu; rfl
theorem es_map (ts : List (List UInt8)) : ts.flatMap es = ts.map encStr := by induction ts <;> simp_all [es, encS, ba]
def sortS (ts : List (List UInt8)) : List (List UInt8) := ts.mergeSort fun x y => decide (x ≤ y)
theorem sortS_length (ts : List (List UInt8)) : (sortS ts).length = ts.length := List.length_mergeSort _

/-- a sort off the shelf, in a row of its own -/
theorem sort_row {α : Type} [Inhabited α] (ench : α → Value) (hone : ∀ x, (ench x).oneCell' = true) {E : Nat} {a : Option Addr} {c : Nat} {f : FuncId} {s w : World} {F : HP} (xs ys : List α) (hlen : ys.length = xs.length)
    (hnone : xs = [] → Calls P f #[.slice a xs.length c] w fun e w' => e = .returned (.tuple #[]) ∧ w' = w) (hnil : xs = [] → ys = [])
    (hsort : ∀ g, a = some ⟨g, 0, none⟩ → Sort.Holds ench w g 0 xs.toArray → g < w.heap.size → Calls P f #[.slice (some ⟨g, 0, none⟩) xs.length c] w fun e w' => e = .returned (.tuple #[]) ∧ ∃ n os, w' = Sort.grow (Sort.putRow ench (Sort.ahead w n) g 0 ys.toArray) os)
    (hw : St s ([sl E 1 a xs.length c (xs.map ench)] ++ [F]) w) :
    Calls P f #[.slice a xs.length c] w fun e w' => ∃ _ : Unit, e = .returned (.tuple #[]) ∧ St s ([sl E 1 a ys.length c (ys.map ench)] ++ [F]) w' := by
  rcases Nat.eq_zero_or_pos xs.length with h0 | h0
  · have e0 : xs = [] := List.length_eq_zero_iff.1 h0
    refine Calls.mono (hnone e0) ?_
    rintro en w' ⟨rfl, rfl⟩
    refine ⟨(), rfl, ?_⟩
    rw [hnil e0]; rw [e0] at hw; exact hw
  · obtain ⟨k1, k2, d, le1, le2, hsl, hrest⟩ := hw.sat
    obtain ⟨g, rfl⟩ := sl_some hsl h0
    obtain ⟨cur, e1, e2, e3, e4, e5⟩ := sl_cells hsl h0
    have hb : w.heap[g]? = some (.cells cur E (0, 0)) := le1 _ _ e1
    have e4' : cur.size = c := by simpa using e4
    have hholds : Sort.Holds ench w g 0 xs.toArray := fun j hj => by
      have hj' : j < xs.length := by simpa using hj
      refine ⟨cells_get hb ?_, cells_froz hb⟩
      have h1 : (xs.map ench)[j]? = some (ench xs.toArray[j]!) := by
        rw [List.getElem?_map, List.getElem?_eq_getElem hj']
        simp [hj']
      rw [← e5, List.getElem?_take] at h1
      split at h1
      · simpa using h1
      · cases h1
    refine Calls.mono (hsort g rfl hholds (Array.getElem?_eq_some_iff.1 hb).1) ?_
    rintro en w' ⟨rfl, n, os, rfl⟩
    refine ⟨(), rfl, ⟨?_, hw.os, hw.tape, hw.output⟩⟩
    have hput : (hl (Sort.putRow ench (Sort.ahead w n) g 0 ys.toArray)) = (hl w).put g (.cells (Sort.putCells ench 0 ys.toArray cur) E (0, 0)) := by
      funext x
      show (Sort.mapBlock (Sort.ahead w n) g (Sort.putCells ench 0 ys.toArray)).heap[x]? = _
      simp only [Sort.mapBlock, HL.put, Array.getElem?_modify]
      by_cases hx : g = x
      · subst hx
        simp only [if_true]
        have : (Sort.ahead w n).heap[g]? = some (.cells cur E (0, 0)) := hb
        rw [this]; rfl
      · have hx' : ¬ x = g := fun h => hx h.symm
        simp only [hx, hx', if_false]; rfl
    have hgrow : (hl (Sort.putRow ench (Sort.ahead w n) g 0 ys.toArray)).le (hl (Sort.grow (Sort.putRow ench (Sort.ahead w n) g 0 ys.toArray) os)) := fun b o h => by
      show ((Sort.putRow ench (Sort.ahead w n) g 0 ys.toArray).heap ++ os)[b]? = some o
      have hlt := (Array.getElem?_eq_some_iff.1 (show (Sort.putRow ench (Sort.ahead w n) g 0 ys.toArray).heap[b]? = some o from h)).1
      rw [Array.getElem?_append_left hlt]; exact h
    refine Sat.up ?_ hgrow
    rw [hput]
    refine put_left d le1 le2 hrest e1 ⟨by simp, .inr ⟨g, _, rfl, HL.put_at, by omega, e3, ?_, ?_⟩⟩
    · simp [Sort.putCells, e4']
    · apply List.ext_getElem?
      intro j
      rw [List.getElem?_take, Array.getElem?_toList, List.getElem?_map]
      simp only [Sort.putCells, Array.getElem?_mapIdx]
      by_cases hj : j < ys.length
      · have hjc : j < cur.size := by omega
        simp [hj, Array.getElem?_eq_getElem hjc]
      · simp [hj]
/-- sort.Strings -/
theorem spec_sortStrings (L : Lays.n192 P ρ) (E : Nat) (a : Option Addr) (c : Nat) (ts : List (List UInt8)) (ht : ts.length ≤ 1099511627776) :
    Spec P (ρ.f 192) [.slice a ts.length c] [sl E 1 a ts.length c (ts.flatMap es)] (fun _ : Unit => .tuple #[]) (fun _ => [sl E 1 a (sortS ts).length c ((sortS ts).flatMap es)]) := fun F s w hw => by
  rw [es_map] at hw ⊢
  refine sort_row encStr (fun _ => rfl) ts (sortS ts) (sortS_length ts) (fun h => by subst h; exact Any.sort_Strings_none L a c w) (fun h => by subst h; simp [sortS]) (fun g hg hh hlt => ?_) hw
  exact Any.sort_Strings L g 0 c ts w hh hlt (by omega)

end
end Go.Proofs.Ytbjdadekheoebaa
