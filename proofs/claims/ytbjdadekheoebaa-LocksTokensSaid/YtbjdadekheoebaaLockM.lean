/- Locks as plain data: what asking, releasing and going away do, with no program in sight. -/
import Derived.Test.YtbjdadekheoebaaAssoc
set_option linter.all false
set_option linter.unusedVariables false
set_option linter.unusedSimpArgs false
set_option linter.unusedSectionVars false
set_option linter.unnecessarySimpa false
namespace Go.Proofs.Ytbjdadekheoebaa
open Go.RowKit Go.Lib

/-- a command -/
structure Cm where
  (kind session seq : Int) (name : Nm) (n : Int)
  deriving DecidableEq
/-- a reply -/
structure Rp where
  (session seq err : Int) (token : Nat) (n : Int)
  deriving DecidableEq
/-- who waits -/
structure Wt where
  (session seq : Int) (reader : Bool)
  deriving DecidableEq
/-- a lock -/
structure Lk where
  (held : List Int) (writer : Bool) (queue : List Wt)
  deriving DecidableEq
def encR (r : Rp) : List Value := [.int .i64 r.session, .int .i64 r.seq, .int .i64 r.err, .int .u64 (r.token : Int), .int .i64 r.n]
theorem encR_len : ∀ r, (encR r).length = 5 := fun _ => rfl
theorem encR_one : ∀ r, ∀ u ∈ encR r, u.oneCell' = true := by intro r u hu; simp [encR] at hu; rcases hu with rfl | rfl | rfl | rfl | rfl <;> rfl
def encW (x : Wt) : List Value := [.int .i64 x.session, .int .i64 x.seq, .bool x.reader]
theorem encW_len : ∀ r, (encW r).length = 3 := fun _ => rfl
theorem encW_one : ∀ r, ∀ u ∈ encW r, u.oneCell' = true := by intro r u hu; simp [encW] at hu; rcases hu with rfl | rfl | rfl <;> rfl
/-- a list of lists of replies: three cells each, of which the model of the memory speaks elsewhere -/
def cmv (c : Cm) : Value := .agg #[.int .i64 c.kind, .int .i64 c.session, .int .i64 c.seq, .string (ba c.name), .int .i64 c.n]

abbrev Lks := List (Nm × Lk)
def topTok : Nat := 18446744073709551615
def insI (x : Int) (l : List Int) : List Int := l.take (l.countP fun y => decide (y < x)) ++ x :: l.drop (l.countP fun y => decide (y < x))
def grantR (tok : Nat) (w : Wt) : Rp := if w.reader = false ∧ tok = topTok then ⟨w.session, w.seq, 16, 0, 0⟩ else ⟨w.session, w.seq, 0, if w.reader then tok else tok + 1, 0⟩
def grantT (tok : Nat) (w : Wt) : Nat := if w.reader = false ∧ tok = topTok then tok else if w.reader then tok else tok + 1
def grantX (tok : Nat) (x : Lk) (w : Wt) : Lk := if w.reader = false ∧ tok = topTok then x else ⟨insI w.session x.held, !w.reader, x.queue⟩
/-- may who waits first not have it yet? -/
def blocked (x : Lk) (w : Wt) : Bool := decide (0 < x.held.length) && (x.writer || !w.reader)
def serveQ (tok : Nat) (held : List Int) (writer : Bool) : List Wt → List Rp × Nat × Lk
  | [] => ([], tok, ⟨held, writer, []⟩)
  | w :: q => if blocked ⟨held, writer, w :: q⟩ w then ([], tok, ⟨held, writer, w :: q⟩) else
    let x := grantX tok ⟨held, writer, q⟩ w
    let r := serveQ (grantT tok w) x.held x.writer q
    (grantR tok w :: r.1, r.2)
def serveX (tok : Nat) (x : Lk) : List Rp × Nat × Lk := serveQ tok x.held x.writer x.queue
def asksX (x : Lk) (s : Int) : Bool := x.held.any (fun y => s == y) || x.queue.any (fun w => w.session == s)
def oneR (c : Cm) (e : Int) : List Rp := [⟨c.session, c.seq, e, 0, 0⟩]
/-- one lock is served: what it replies, the counter, all locks behind -/
def serveM (tok : Nat) (m : Lks) (k : Nm) (x : Lk) : List Rp × Nat × Lks :=
  let r := serveX tok x
  (r.1, r.2.1, if r.2.2.held = [] then adel k m else aput k r.2.2 m)
def askM (tok : Nat) (m : Lks) (c : Cm) : List Rp × Bool × Nat × Lks :=
  if c.kind ≠ 5 ∧ c.kind ≠ 7 then ([], false, tok, m) else
  let w : Wt := ⟨c.session, c.seq, c.kind == 7⟩
  match aget c.name m with
  | none => if 256 ≤ m.length then (oneR c 17, false, tok, m) else
    ([grantR tok w], false, grantT tok w, if (grantR tok w).err = 0 then aput c.name (grantX tok ⟨[], false, []⟩ w) m else m)
  | some x => if asksX x c.session then (oneR c 12, false, tok, m) else
    if w.reader && !x.writer && (x.queue.length == 0) then ([grantR tok w], false, grantT tok w, aput c.name (grantX tok x w) m) else
    ([], true, tok, aput c.name { x with queue := x.queue ++ [w] } m)
def releaseM (tok : Nat) (m : Lks) (c : Cm) : List Rp × Nat × Lks :=
  if c.kind ≠ 6 ∧ c.kind ≠ 8 then ([], tok, m) else
  match aget c.name m with
  | none => (oneR c 13, tok, m)
  | some x => if x.writer ≠ (c.kind == 6) ∨ x.held.any (fun y => c.session == y) = false then (oneR c 13, tok, m) else
    let r := serveM tok m c.name { x with held := x.held.filter fun y => !(y == c.session) }
    (oneR c 0 ++ r.1, r.2)
/-- a session goes: name by name -/
def goneL (s : Int) : List Nm → Nat → Lks → List Rp × Nat × Lks
  | [], tok, m => ([], tok, m)
  | k :: ks, tok, m => match aget k m with
    | none => goneL s ks tok m
    | some x => if asksX x s then
        let r := serveM tok m k ⟨x.held.filter (fun y => !(y == s)), x.writer, x.queue.filter fun w => !(w.session == s)⟩
        let r' := goneL s ks r.2.1 r.2.2
        (r.1 ++ r'.1, r'.2)
      else goneL s ks tok m
def goneM (tok : Nat) (m : Lks) (s : Int) : List Rp × Nat × Lks := goneL s (m.map (·.1)) tok m

/-! ### what stays -/
def okX (n : Nat) (x : Lk) : Prop := x.held.Pairwise (· ≤ ·) ∧ x.held.length + x.queue.length ≤ n
def okM (n : Nat) (m : Lks) : Prop := Rising m ∧ m.length ≤ 256 ∧ ∀ q ∈ m, okX n q.2
theorem okM.get {n : Nat} {m : Lks} {k : Nm} {x : Lk} (h : okM n m) (hx : aget k m = some x) : okX n x := h.2.2 _ (aget_mem hx)
theorem okX.mono {n n' : Nat} {x : Lk} (h : okX n x) (hn : n ≤ n') : okX n' x := ⟨h.1, by have := h.2; omega⟩
theorem okM.mono {n n' : Nat} {m : Lks} (h : okM n m) (hn : n ≤ n') : okM n' m := ⟨h.1, h.2.1, fun q hq => (h.2.2 q hq).mono hn⟩
theorem insI_length (x : Int) (l : List Int) : (insI x l).length = l.length + 1 := by
  have := List.countP_le_length (p := fun y => decide (y < x)) (l := l)
  simp only [insI, List.length_append, List.length_take, List.length_cons, List.length_drop]; omega
theorem countP_sorted : ∀ {l : List Int} {x : Int}, l.Pairwise (· ≤ ·) → (∀ y ∈ l.take (l.countP fun y => decide (y < x)), y < x) ∧ (∀ y ∈ l.drop (l.countP fun y => decide (y < x)), x ≤ y)
  | [], x, _ => by simp
  | a :: l, x, h => by
    obtain ⟨h1, h2⟩ := List.pairwise_cons.1 h
    obtain ⟨h3, h4⟩ := countP_sorted (x := x) h2
    by_cases ha : a < x
    · simp only [List.countP_cons, ha, decide_true, if_true, List.take_succ_cons, List.drop_succ_cons]
      refine ⟨fun y hy => ?_, h4⟩
      rcases List.mem_cons.1 hy with rfl | hy
      · exact ha
      · exact h3 y hy
    · have h0 : l.countP (fun y => decide (y < x)) = 0 := List.countP_eq_zero.2 fun y hy => by have := h1 y hy; simp; omega
      simp only [List.countP_cons, ha, decide_false, Bool.false_eq_true, if_false, h0, Nat.add_zero, List.take_zero, List.drop_zero]
      refine ⟨by simp, fun y hy => ?_⟩
      rcases List.mem_cons.1 hy with rfl | hy
      · omega
      · have := h1 y hy; omega
theorem insI_sorted {x : Int} {l : List Int} (h : l.Pairwise (· ≤ ·)) : (insI x l).Pairwise (· ≤ ·) := by
  obtain ⟨h1, h2⟩ := countP_sorted (x := x) h
  refine List.pairwise_append.2 ⟨h.sublist (List.take_sublist _ _), List.pairwise_cons.2 ⟨h2, h.sublist (List.drop_sublist _ _)⟩, fun a ha b hb => ?_⟩
  have := h1 a ha
  rcases List.mem_cons.1 hb with rfl | hb
  · omega
  · have := h2 b hb; omega
theorem grantX_ok {n tok : Nat} {x : Lk} {w : Wt} (h : okX n x) : okX (n + 1) (grantX tok x w) := by
  unfold grantX
  split
  · exact h.mono (by omega)
  · exact ⟨insI_sorted h.1, by have := h.2; simp only [insI_length]; omega⟩
theorem serveQ_ok {n : Nat} : ∀ (q : List Wt) (tok : Nat) (held : List Int) (writer : Bool), okX n ⟨held, writer, q⟩ → okX n (serveQ tok held writer q).2.2
  | [], tok, held, writer, h => h
  | w :: q, tok, held, writer, h => by
    simp only [serveQ]
    split
    · exact h
    · refine serveQ_ok q _ _ _ ?_
      have h2 := h.2
      simp only [List.length_cons] at h2
      unfold grantX
      split
      · exact ⟨h.1, by simp only; omega⟩
      · exact ⟨insI_sorted h.1, by simp only [insI_length]; omega⟩
theorem aput_ok {n : Nat} {m : Lks} {k : Nm} {x u : Lk} (h : okM n m) (hu : aget k m = some u) (hx : okX n x) : okM n (aput k x m) := by
  refine ⟨aput_rising h.1, by rw [aput_len_old h.1 hu]; exact h.2.1, fun q hq => ?_⟩
  rcases aput_mem hq with rfl | hq
  · exact hx
  · exact h.2.2 q hq
theorem adel_ok {n : Nat} {m : Lks} {k : Nm} (h : okM n m) : okM n (adel k m) :=
  ⟨adel_rising h.1, Nat.le_trans adel_len h.2.1, fun q hq => h.2.2 q (List.mem_filter.1 hq).1⟩
theorem serveM_ok {n tok : Nat} {m : Lks} {k : Nm} {x u : Lk} (h : okM n m) (hu : aget k m = some u) (hx : okX n x) : okM n (serveM tok m k x).2.2 := by
  simp only [serveM]
  split
  · exact adel_ok h
  · exact aput_ok h hu (serveQ_ok _ _ _ _ hx)
theorem askM_ok {n tok : Nat} {m : Lks} {c : Cm} (h : okM n m) : okM (n + 1) (askM tok m c).2.2.2 := by
  unfold askM
  split
  · exact h.mono (by omega)
  · cases hg : aget c.name m with
    | none =>
      simp only
      split
      · exact h.mono (by omega)
      · simp only
        split
        · refine ⟨aput_rising h.1, by have := aput_len (k := c.name) (v := grantX tok ⟨[], false, []⟩ ⟨c.session, c.seq, c.kind == 7⟩) h.1; omega, fun q hq => ?_⟩
          rcases aput_mem hq with rfl | hq
          · exact (grantX_ok (n := 0) ⟨by simp, by simp⟩).mono (by omega)
          · exact (h.2.2 q hq).mono (by omega)
        · exact h.mono (by omega)
    | some x =>
      simp only
      have hx := h.get hg
      split
      · exact h.mono (by omega)
      · split
        · exact aput_ok (h.mono (by omega)) hg (grantX_ok hx)
        · exact aput_ok (h.mono (by omega)) hg ⟨hx.1, by have := hx.2; simp only [List.length_append, List.length_singleton]; omega⟩
theorem filter_ok {n : Nat} {x : Lk} {p : Int → Bool} {q : Wt → Bool} (h : okX n x) : okX n ⟨x.held.filter p, x.writer, x.queue.filter q⟩ :=
  ⟨h.1.sublist List.filter_sublist, by have := h.2; have h1 := List.length_filter_le p x.held; have h2 := List.length_filter_le q x.queue; simp only; omega⟩
theorem releaseM_ok {n tok : Nat} {m : Lks} {c : Cm} (h : okM n m) : okM n (releaseM tok m c).2.2 := by
  unfold releaseM
  split
  · exact h
  · cases hg : aget c.name m with
    | none => exact h
    | some x =>
      simp only
      have hx := h.get hg
      split
      · exact h
      · refine serveM_ok h hg ⟨hx.1.sublist List.filter_sublist, ?_⟩
        have := hx.2; have h1 := List.length_filter_le (fun y => !(y == c.session)) x.held
        simp only; omega
theorem goneL_ok {n : Nat} {s : Int} : ∀ (ks : List Nm) (tok : Nat) (m : Lks), okM n m → okM n (goneL s ks tok m).2.2
  | [], _, _, h => h
  | k :: ks, tok, m, h => by
    simp only [goneL]
    cases hg : aget k m with
    | none => exact goneL_ok ks tok m h
    | some x =>
      simp only
      split
      · exact goneL_ok ks _ _ (serveM_ok h hg (filter_ok (h.get hg)))
      · exact goneL_ok ks tok m h
theorem serveQ_len : ∀ (q : List Wt) (tok : Nat) (held : List Int) (writer : Bool), (serveQ tok held writer q).1.length ≤ q.length
  | [], _, _, _ => by simp [serveQ]
  | w :: q, tok, held, writer => by
    simp only [serveQ]
    split
    · simp
    · simp only [List.length_cons]
      have := serveQ_len q (grantT tok w) (grantX tok ⟨held, writer, q⟩ w).held (grantX tok ⟨held, writer, q⟩ w).writer
      omega
theorem grantT_le {tok : Nat} {w : Wt} (h : tok ≤ topTok) : grantT tok w ≤ topTok := by
  unfold grantT; split
  · exact h
  · rename_i hn
    split
    · exact h
    · rename_i hr
      have : w.reader = false := by simpa using hr
      simp only [this, true_and] at hn; omega
theorem serveQ_tok : ∀ (q : List Wt) (tok : Nat) (held : List Int) (writer : Bool), tok ≤ topTok → (serveQ tok held writer q).2.1 ≤ topTok
  | [], _, _, _, h => h
  | w :: q, tok, held, writer, h => by
    simp only [serveQ]
    split
    · exact h
    · exact serveQ_tok q _ _ _ (grantT_le h)
end Go.Proofs.Ytbjdadekheoebaa
