/- The law of tokens, as plain data: what asking, releasing and going away reply, their tokens rise, and the last of them is the counter. -/
import Derived.Test.YtbjdadekheoebaaLockM
set_option linter.all false
set_option linter.unusedVariables false
set_option linter.unusedSimpArgs false
set_option linter.unusedSectionVars false
set_option linter.unnecessarySimpa false
namespace Go.Proofs.Ytbjdadekheoebaa

def seenF : Nat → List Rp → Nat
  | s, [] => s
  | s, r :: rs => seenF (max s r.token) rs
def Chain (now : Nat) : Nat → List Rp → Prop
  | _, [] => True
  | s, r :: rs => (r.token = 0 ∨ (s ≤ r.token ∧ r.token ≤ now)) ∧ Chain now (max s r.token) rs
def Good (a b : Nat) (rs : List Rp) : Prop := a ≤ b ∧ Chain b a rs ∧ seenF a rs = b
theorem seenF_append : ∀ (r1 r2 : List Rp) (s : Nat), seenF s (r1 ++ r2) = seenF (seenF s r1) r2
  | [], _, _ => rfl
  | r :: r1, r2, s => by simp only [List.cons_append, seenF]; exact seenF_append r1 r2 _
theorem chain_mono {b c : Nat} (h : b ≤ c) : ∀ {rs : List Rp} {s : Nat}, Chain b s rs → Chain c s rs
  | [], _, _ => trivial
  | r :: rs, s, ⟨h1, h2⟩ => ⟨h1.imp id (fun ⟨x, y⟩ => ⟨x, Nat.le_trans y h⟩), chain_mono h h2⟩
theorem chain_append {c : Nat} : ∀ {r1 r2 : List Rp} {s : Nat}, Chain c s r1 → Chain c (seenF s r1) r2 → Chain c s (r1 ++ r2)
  | [], _, _, _, h => h
  | r :: r1, r2, s, ⟨h1, h2⟩, h => ⟨h1, chain_append h2 h⟩
theorem Good.nil (a : Nat) : Good a a [] := ⟨Nat.le_refl _, trivial, rfl⟩
theorem Good.append {a b c : Nat} {r1 r2 : List Rp} (h : Good a b r1) (k : Good b c r2) : Good a c (r1 ++ r2) :=
  ⟨Nat.le_trans h.1 k.1, chain_append (chain_mono k.1 h.2.1) (by rw [h.2.2]; exact k.2.1), by rw [seenF_append, h.2.2, k.2.2]⟩
theorem Good.zero {a b : Nat} {r : Rp} {rs : List Rp} (hr : r.token = 0) (h : Good a b rs) : Good a b (r :: rs) := by
  refine ⟨h.1, ⟨.inl hr, ?_⟩, ?_⟩
  · rw [hr, Nat.max_zero]; exact h.2.1
  · simp only [seenF, hr, Nat.max_zero]; exact h.2.2
theorem good_grant (tok : Nat) (w : Wt) : Good tok (grantT tok w) [grantR tok w] := by
  unfold grantT grantR
  by_cases h : w.reader = false ∧ tok = topTok
  · rw [if_pos h, if_pos h]; exact Good.zero rfl (Good.nil _)
  · rw [if_neg h, if_neg h]
    refine ⟨by split <;> omega, ⟨.inr ⟨by simp only; split <;> omega, Nat.le_refl _⟩, trivial⟩, ?_⟩
    simp only [seenF]; split <;> omega
theorem good_serveQ : ∀ (q : List Wt) (tok : Nat) (held : List Int) (writer : Bool), Good tok (serveQ tok held writer q).2.1 (serveQ tok held writer q).1
  | [], tok, _, _ => Good.nil tok
  | w :: q, tok, held, writer => by
    simp only [serveQ]
    split
    · exact Good.nil tok
    · exact (good_grant tok w).append (good_serveQ q _ _ _)
theorem good_serveM (tok : Nat) (m : Lks) (k : Nm) (x : Lk) : Good tok (serveM tok m k x).2.1 (serveM tok m k x).1 := good_serveQ _ _ _ _
theorem good_one (tok : Nat) (c : Cm) (e : Int) : Good tok tok (oneR c e) := Good.zero rfl (Good.nil _)
theorem good_ask (tok : Nat) (m : Lks) (c : Cm) : Good tok (askM tok m c).2.2.1 (askM tok m c).1 := by
  unfold askM
  split
  · exact Good.nil _
  · cases aget c.name m with
    | none =>
      simp only
      split
      · exact good_one _ _ _
      · exact good_grant _ _
    | some x =>
      simp only
      split
      · exact good_one _ _ _
      · split
        · exact good_grant _ _
        · exact Good.nil _
theorem good_release (tok : Nat) (m : Lks) (c : Cm) : Good tok (releaseM tok m c).2.1 (releaseM tok m c).1 := by
  unfold releaseM
  split
  · exact Good.nil _
  · cases aget c.name m with
    | none => exact good_one _ _ _
    | some x =>
      simp only
      split
      · exact good_one _ _ _
      · exact (good_one tok c 0).append (good_serveM _ _ _ _)
theorem good_gone (s : Int) : ∀ (ks : List Nm) (tok : Nat) (m : Lks), Good tok (goneL s ks tok m).2.1 (goneL s ks tok m).1
  | [], tok, _ => Good.nil tok
  | k :: ks, tok, m => by
    simp only [goneL]
    cases aget k m with
    | none => exact good_gone s ks tok m
    | some x =>
      simp only
      split
      · exact (good_serveM _ _ _ _).append (good_gone s ks _ _)
      · exact good_gone s ks tok m
theorem tok_ask {tok : Nat} {m : Lks} {c : Cm} (h : tok ≤ topTok) : (askM tok m c).2.2.1 ≤ topTok := by
  unfold askM
  split
  · exact h
  · cases aget c.name m with
    | none => simp only; split; exact h; exact grantT_le h
    | some x => simp only; split; exact h; split; exact grantT_le h; exact h
theorem tok_release {tok : Nat} {m : Lks} {c : Cm} (h : tok ≤ topTok) : (releaseM tok m c).2.1 ≤ topTok := by
  unfold releaseM
  split
  · exact h
  · cases aget c.name m with
    | none => exact h
    | some x => simp only; split; exact h; exact serveQ_tok _ _ _ _ h
theorem tok_gone (s : Int) : ∀ (ks : List Nm) (tok : Nat) (m : Lks), tok ≤ topTok → (goneL s ks tok m).2.1 ≤ topTok
  | [], _, _, h => h
  | k :: ks, tok, m, h => by
    simp only [goneL]
    cases aget k m with
    | none => exact tok_gone s ks tok m h
    | some x => simp only; split; exact tok_gone s ks _ _ (serveQ_tok _ _ _ _ h); exact tok_gone s ks tok m h
/-- at reply k -/
theorem chain_at {b : Nat} : ∀ {rs : List Rp} {s k : Nat} {r : Rp}, Chain b s rs → rs[k]? = some r → r.token = 0 ∨ (seenF s (rs.take k) ≤ r.token ∧ r.token ≤ b)
  | [], _, _, _, _, h => by simp at h
  | q :: rs, s, 0, r, h, e => by simp at e; subst e; exact h.1
  | q :: rs, s, k + 1, r, h, e => by
    simp only [List.getElem?_cons_succ] at e
    have h1 := chain_at (s := max s q.token) h.2 e
    exact h1
theorem seen_take {rs : List Rp} {s k : Nat} {r : Rp} (e : rs[k]? = some r) : seenF s (rs.take (k + 1)) = max (seenF s (rs.take k)) r.token := by
  rw [List.take_add_one, e, seenF_append]; rfl
theorem askM_len {n tok : Nat} {m : Lks} {c : Cm} : (askM tok m c).1.length ≤ 1 := by
  unfold askM
  split
  · simp
  · cases aget c.name m with
    | none => simp only; split <;> simp [oneR]
    | some x => simp only; split; simp [oneR]; split <;> simp
/-- a deed -/
structure Dd where
  (kind : Int) (c : Cm) (token : Nat)
def encD (d : Dd) : List Value := [.int .i64 d.kind, .int .i64 d.c.kind, .int .i64 d.c.session, .int .i64 d.c.seq, .string (ba d.c.name), .int .i64 d.c.n, .int .u64 (d.token : Int)]
theorem encD_len : ∀ d, (encD d).length = 7 := fun _ => rfl

/-! ### what came in: it stays -/
def arg (H : HL) (k : Nat) (a : Option Addr) (n : Nat) (xs : List Value) : HP := fun h => H.le h ∧ rs k a n xs H
theorem arg_rs {H : HL} {k n : Nat} {a : Option Addr} {xs : List Value} (h : HL) (ha : arg H k a n xs h) : rs k a n xs h := by
  obtain ⟨h1, h2, h3⟩ := ha
  refine ⟨h2, h3.imp id ?_⟩
  rintro ⟨g, off, cur, E, fz, e1, e2, e3⟩
  exact ⟨g, off, cur, E, fz, e1, h1 _ _ e2, e3⟩
theorem arg_some {H : HL} {k n : Nat} {a : Option Addr} {xs : List Value} {h : HL} (ha : arg H k a n xs h) (hn : 0 < n) : ∃ g off, a = some ⟨g, off, none⟩ := by
  rcases ha.2.2 with h | ⟨g, off, cur, E, fz, e1, _⟩
  · omega
  · exact ⟨g, off, e1⟩
section
variable {l : List HP} {τ : Type} {enc : τ → List Value} {k : Nat}
theorem rd_elk {H : HL} {i g off m j : Nat} {qs : List τ} {x : τ} {v : Value} (d : Nat) (hk : ∀ x, (enc x).length = k) (hi : l[i]? = some (arg H k (some ⟨g, off, none⟩) m (qs.flatMap enc))) (hx : qs[j]? = some x) (hv : (enc x)[d]? = some v) : Rd l g (off + j * k + d) v := by
  refine rd_of hi fun h ha => ?_
  obtain ⟨c, T, fz, h1, h2⟩ := rd_elr (l := [rs k (some ⟨g, off, none⟩) m (qs.flatMap enc)]) (i := 0) d hk rfl hx hv h ⟨h, fun _ => none, fun _ => .inr rfl, HL.le.refl _, fun _ _ e => (by cases e), arg_rs h ha, trivial⟩
  exact ⟨c, T, fz, h1, h2⟩
theorem rds_elk {H : HL} {i g off m j : Nat} {qs : List τ} {x : τ} {cs : List Value} (d : Nat) (hk : ∀ x, (enc x).length = k) (hi : l[i]? = some (arg H k (some ⟨g, off, none⟩) m (qs.flatMap enc))) (hx : qs[j]? = some x) (hv : ((enc x).drop d).take cs.length = cs) : Rds l g (off + j * k + d) cs := fun q v hq => by
  rw [Nat.add_assoc (off + j * k)]
  refine rd_elk _ hk hi hx ?_
  rw [← hv, List.getElem?_take] at hq
  split at hq
  · rw [List.getElem?_drop] at hq; exact hq
  · cases hq
end
end Go.Proofs.Ytbjdadekheoebaa
