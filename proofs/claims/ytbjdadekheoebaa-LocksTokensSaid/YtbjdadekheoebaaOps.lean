/- What each kind of operation does to slots and to parts of memory: one lemma a kind. It speaks of no program. -/
import Derived.Test.YtbjdadekheoebaaSl
import Derived.WalkKit
import Derived.WalkSpells
import Derived.WalkLawsBesides
import Derived.Laws.StructEq
import Derived.Maps.AppendAt
import Derived.Lib.AppendStr
import Derived.Laws.BytesArg
import Derived.Deep.AppendSrc
import Derived.Deep.Upon
set_option linter.all false
set_option linter.unusedVariables false
set_option linter.unusedSimpArgs false
set_option linter.unusedSectionVars false
set_option linter.unnecessarySimpa false
namespace Go.Proofs.Ytbjdadekheoebaa
open Go.RowKit Go.Lib

/-! ### the table of types -/
/-- Type t's values are of one cell each. -/
def One (P : Program) (t : TypeId) : Prop := ∃ d i, P.underlying t = some d ∧ P.info? t = some i ∧ i.size = 1 ∧ (match d with | .struct _ | .array _ _ => False | _ => True)
/-- Type t is a struct of n cells (or an array). -/
def Agg (P : Program) (t : TypeId) (n : Nat) : Prop := ∃ d i, P.underlying t = some d ∧ P.info? t = some i ∧ i.size = n ∧ (match d with | .struct _ | .array _ _ => True | _ => False)

def oneB (P : Program) (t : TypeId) : Bool :=
  match P.underlying t, P.info? t with
  | some d, some i => i.size == 1 && (match d with | .struct _ | .array _ _ => false | _ => true)
  | _, _ => false
def aggB (P : Program) (t : TypeId) (n : Nat) : Bool :=
  match P.underlying t, P.info? t with
  | some d, some i => i.size == n && (match d with | .struct _ | .array _ _ => true | _ => false)
  | _, _ => false
theorem One.of {P : Program} {t : TypeId} (h : oneB P t = true) : One P t := by
  unfold oneB at h
  split at h
  · rename_i d i hd hi
    simp only [Bool.and_eq_true, beq_iff_eq] at h
    refine ⟨d, i, hd, hi, h.1, ?_⟩
    cases d <;> simp_all
  · cases h
theorem Agg.of {P : Program} {t : TypeId} {n : Nat} (h : aggB P t n = true) : Agg P t n := by
  unfold aggB at h
  split at h
  · rename_i d i hd hi
    simp only [Bool.and_eq_true, beq_iff_eq] at h
    refine ⟨d, i, hd, hi, h.1, ?_⟩
    cases d <;> simp_all
  · cases h

section
variable {P : Program} {w : World} {t : TypeId}
theorem One.isAgg (h : One P t) : (isAgg t).run P w = .ok false w := by
  obtain ⟨d, i, hd, _, _, hm⟩ := h
  simp only [Go.isAgg, Sem.run_bind, run_underlying hd, Result.andThen]
  cases d <;> simp_all
theorem Agg.isAgg {n : Nat} (h : Agg P t n) : (isAgg t).run P w = .ok true w := by
  obtain ⟨d, i, hd, _, _, hm⟩ := h
  simp only [Go.isAgg, Sem.run_bind, run_underlying hd, Result.andThen]
  cases d <;> simp_all
theorem run_typeInfo' {i : TypeInfo} (h : P.info? t = some i) : (typeInfo t).run P w = .ok i w := by simp [typeInfo, h]
theorem One.sizeOf (h : One P t) : (sizeOf t).run P w = .ok 1 w := by
  obtain ⟨d, i, _, hi, hs, _⟩ := h; simp [Go.sizeOf, run_typeInfo' hi, Result.andThen, hs]
theorem Agg.sizeOf {n : Nat} (h : Agg P t n) : (sizeOf t).run P w = .ok n w := by
  obtain ⟨d, i, _, hi, hs, _⟩ := h; simp [Go.sizeOf, run_typeInfo' hi, Result.andThen, hs]
end

/-! ### reading -/
/-- Where the parts l are, the cell at ⟨b, off⟩ holds v. -/
def Rd (l : List HP) (b off : Nat) (v : Value) : Prop := ∀ h, Sat l h → ∃ c T fz, h b = some (.cells c T fz) ∧ c[off]? = some v
def Rds (l : List HP) (b off : Nat) (cs : List Value) : Prop := ∀ j v, cs[j]? = some v → Rd l b (off + j) v

theorem rd_pts {l : List HP} {i b off : Nat} {c : Array Value} {T : TypeId} {fz : Nat × Nat} {v : Value} (hi : l[i]? = some (pts b (.cells c T fz))) (hc : c[off]? = some v) : Rd l b off v :=
  fun _ hs => ⟨c, T, fz, Sat.pts_at hi hs, hc⟩
theorem rd_of {l : List HP} {i b off : Nat} {A : HP} {v : Value} (hi : l[i]? = some A) (hA : ∀ h, A h → ∃ c T fz, h b = some (.cells c T fz) ∧ c[off]? = some v) : Rd l b off v :=
  fun h hs => by
    obtain ⟨k, hk, hAk⟩ := Sat.pick hi hs
    obtain ⟨c, T, fz, h1, h2⟩ := hA k hAk
    exact ⟨c, T, fz, hk _ _ h1, h2⟩
theorem rds_nil {l : List HP} {b off : Nat} : Rds l b off [] := fun j v h => by simp at h
theorem rds_cons {l : List HP} {b off : Nat} {v : Value} {vs : List Value} (h : Rd l b off v) (k : Rds l b (off + 1) vs) : Rds l b off (v :: vs) := fun j u hu => by
  cases j with
  | zero => simp at hu; subst hu; exact h
  | succ j => simp at hu; have := k j u hu; rwa [Nat.add_assoc, Nat.add_comm 1 j] at this
theorem rds_pts {l : List HP} {i b off : Nat} {c : Array Value} {T : TypeId} {fz : Nat × Nat} {cs : List Value} (hi : l[i]? = some (pts b (.cells c T fz))) (hc : (c.toList.drop off).take cs.length = cs) : Rds l b off cs := fun j v hv => by
  refine rd_pts hi ?_
  rw [← hc, List.getElem?_take] at hv
  split at hv
  · rw [List.getElem?_drop] at hv; simpa using hv
  · cases hv

theorem cell_of_rd {l : List HP} {b off : Nat} {v : Value} {w : World} (h : Rd l b off v) (hs : Sat l (hl w)) : w.cell? ⟨b, off, none⟩ = some v := by
  obtain ⟨c, T, fz, h1, h2⟩ := h _ hs
  have h1' : w.heap[b]? = some (.cells c T fz) := h1
  simp [World.cell?, h1', h2]

section
variable {P : Program} {s : World} {n : Nat} {o : Oper} {e : Env} {l : List HP}

/-! ### values -/
theorem ov_move {x : Operand} {v : Value} (ho : o.op = .move x) (hx : opv e x = some v) : OpV P n o e l v := fun a w hf _ => by
  simp [execOp, ho, hf.opv hx]
theorem ov_assign {x : Operand} {v : Value} (ho : o.op = .assign x) (hx : opv e x = some v) : OpV P n o e l v := fun a w hf _ => by
  simp [execOp, ho, hf.opv hx]
theorem ov_pick {c x y : Operand} {b : Bool} {u v : Value} (ho : o.op = .pick c x y) (hc : opv e c = some (.bool b)) (hx : opv e x = some u) (hy : opv e y = some v) : OpV P n o e l (bif b then u else v) := fun a w hf _ => by
  simp only [execOp, ho, hf.opv hc, hf.opv hx, hf.opv hy, asBool]
  cases b <;> simp
theorem ov_pickb {c x y : Operand} {b u v : Bool} (ho : o.op = .pick c x y) (hc : opv e c = some (.bool b)) (hx : opv e x = some (.bool u)) (hy : opv e y = some (.bool v)) : OpV P n o e l (.bool (bif b then u else v)) := fun a w hf _ => by
  simp only [execOp, ho, hf.opv hc, hf.opv hx, hf.opv hy, asBool]
  cases b <;> simp
theorem ov_nilCheck {x : Operand} {a : Addr} (ho : o.op = .nilCheck x) (hx : opv e x = some (.pointer (some a))) : OpV P n o e l (.pointer (some a)) := fun a w hf _ => by
  simp [execOp, ho, hf.opv hx]
theorem ov_nilCheckF {x : Operand} {f : FuncId} {a b : Array Value} (ho : o.op = .nilCheck x) (hx : opv e x = some (.func (.func f) a b)) : OpV P n o e l (.func (.func f) a b) := fun a w hf _ => by
  simp [execOp, ho, hf.opv hx]
theorem ov_extract {x : Operand} {i : Nat} {vs : Array Value} {v : Value} (ho : o.op = .extract x i) (hx : opv e x = some (.tuple vs)) (hv : vs[i]? = some v) : OpV P n o e l v := fun a w hf _ => by
  simp [execOp, ho, hf.opv hx, Instr.extract, hv]
theorem ov_makeFunc {fn : Fn} {first captured : Array Operand} {f c : List Value} (ho : o.op = .makeFunc fn first captured) (hfirst : opvs e first.toList = some f) (hc : opvs e captured.toList = some c) :
    OpV P n o e l (.func fn f.toArray c.toArray) := fun a w hf _ => by
  have h1 : first.map a.eval = f.toArray := by rw [← hf.opvs hfirst, ← Array.toList_map, Array.toArray_toList]
  have h2 : captured.map a.eval = c.toArray := by rw [← hf.opvs hc, ← Array.toList_map, Array.toArray_toList]
  simp [execOp, ho, Instr.makeFunc, h1, h2]

/-- field addresses -/
def FieldOf (P : Program) (T : TypeId) (i off : Nat) : Prop := ∃ fs f, P.underlying T = some (.struct fs) ∧ fs[i]? = some f ∧ f.offset = off ∧ ∃ inf, P.info? f.type = some inf ∧ inf.size ≠ 0
def fieldB (P : Program) (T : TypeId) (i off : Nat) : Bool :=
  match P.underlying T with
  | some (.struct fs) => match fs[i]? with
    | some f => f.offset == off && (match P.info? f.type with | some inf => inf.size != 0 | none => false)
    | none => false
  | _ => false
theorem FieldOf.of {T : TypeId} {i off : Nat} (h : fieldB P T i off = true) : FieldOf P T i off := by
  unfold fieldB at h
  split at h
  · rename_i fs hfs
    split at h
    · rename_i f hf
      simp only [Bool.and_eq_true, beq_iff_eq] at h
      obtain ⟨h1, h2⟩ := h
      split at h2
      · rename_i inf hinf; exact ⟨fs, f, hfs, hf, h1, inf, hinf, by simpa using h2⟩
      · cases h2
    · cases h
  · cases h
theorem ov_fieldAddr {T : TypeId} {x : Operand} {i b off d : Nat} (ho : o.op = .fieldAddr T x i) (hx : opv e x = some (.pointer (some ⟨b, off, none⟩))) (hF : FieldOf P T i d) :
    OpV P n o e l (.pointer (some ⟨b, off + d, none⟩)) := fun a w hf _ => by
  obtain ⟨fs, f, h1, h2, h3, inf, h4, h5⟩ := hF
  simp only [execOp, ho, hf.opv hx, Instr.fieldAt, Sem.run_bind, run_underlying h1, Result.andThen, h2, Instr.sureAddr, fieldPlace, Go.sizeOf, run_typeInfo' h4, Sem.run_pure, h5, if_false, h3]
  simp [Addr.add_lit]

/-- loads -/
theorem ov_load1 {T : TypeId} {x : Operand} {b off : Nat} {v : Value} (ho : o.op = .load T x) (hx : opv e x = some (.pointer (some ⟨b, off, none⟩))) (h1 : One P T) (hr : Rd l b off v) : OpV P n o e l v := fun a w hf hs => by
  simp only [execOp, ho, hf.opv hx, Instr.loadAt, Instr.sureAddr, loadVar, Sem.run_bind, Sem.run_pure, Result.andThen, h1.isAgg, Bool.false_eq_true, if_false, run_load, cell_of_rd hr hs]
theorem ov_loadn {T : TypeId} {x : Operand} {b off : Nat} {cs : List Value} (ho : o.op = .load T x) (hx : opv e x = some (.pointer (some ⟨b, off, none⟩))) (h1 : Agg P T cs.length) (hr : Rds l b off cs) : OpV P n o e l (.agg cs.toArray) := fun a w hf hs => by
  have hc := run_loadCells_list (P := P) w ⟨b, off, none⟩ cs (fun j v hv => by rw [Addr.add_lit]; exact cell_of_rd (hr j v hv) hs)
  simp only [execOp, ho, hf.opv hx, Instr.loadAt, Instr.sureAddr, loadVar, Sem.run_bind, Sem.run_pure, Result.andThen, h1.isAgg, if_true, h1.sizeOf, hc]

/-! ### numbers -/
theorem ov_bin {op : BinOp} {T T' : TypeId} {x y : Operand} {u v z : Value} (ho : o.op = .binOp op T x y T') (hx : opv e x = some u) (hy : opv e y = some v) (hg : eqGuard op T x y u v = pure ())
    (hz : ∀ w, (binOp op T u v).run P w = .ok z w) : OpV P n o e l z := fun a w hf _ => by
  simp [execOp, ho, hf.opv hx, hf.opv hy, hg, hz, Result.andThen]

theorem wrap_i64 {x : Int} (h : -9223372036854775808 ≤ x ∧ x ≤ 9223372036854775807) : IntKind.i64.wrap x = x := IntWalk.i64_in _ h
theorem ov_add {T T' : TypeId} {x y : Operand} {p q : Int} (ho : o.op = .binOp .add T x y T') (hx : opv e x = some (.int .i64 p)) (hy : opv e y = some (.int .i64 q)) (h : -9223372036854775808 ≤ p + q ∧ p + q ≤ 9223372036854775807) :
    OpV P n o e l (.int .i64 (p + q)) := ov_bin ho hx hy (by simp [go_sem]) fun w => by rw [binOp_add]; simp [Op.intArith, wrap_i64 h]
theorem ov_sub {T T' : TypeId} {x y : Operand} {p q : Int} (ho : o.op = .binOp .sub T x y T') (hx : opv e x = some (.int .i64 p)) (hy : opv e y = some (.int .i64 q)) (h : -9223372036854775808 ≤ p - q ∧ p - q ≤ 9223372036854775807) :
    OpV P n o e l (.int .i64 (p - q)) := ov_bin ho hx hy (by simp [go_sem]) fun w => by rw [binOp_sub]; simp [Op.intArith, wrap_i64 h]
theorem ov_mul {T T' : TypeId} {x y : Operand} {p q : Int} (ho : o.op = .binOp .mul T x y T') (hx : opv e x = some (.int .i64 p)) (hy : opv e y = some (.int .i64 q)) (h : -9223372036854775808 ≤ p * q ∧ p * q ≤ 9223372036854775807) :
    OpV P n o e l (.int .i64 (p * q)) := ov_bin ho hx hy (by simp [go_sem]) fun w => by rw [binOp_mul]; simp [Op.intArith, wrap_i64 h]
theorem ov_addw {T T' : TypeId} {x y : Operand} {k : IntKind} {p q : Int} (ho : o.op = .binOp .add T x y T') (hx : opv e x = some (.int k p)) (hy : opv e y = some (.int k q)) :
    OpV P n o e l (.int k (k.wrap (p + q))) := ov_bin ho hx hy (by simp [go_sem]) fun w => by rw [binOp_add]; simp [Op.intArith]
theorem ov_subw {T T' : TypeId} {x y : Operand} {k : IntKind} {p q : Int} (ho : o.op = .binOp .sub T x y T') (hx : opv e x = some (.int k p)) (hy : opv e y = some (.int k q)) :
    OpV P n o e l (.int k (k.wrap (p - q))) := ov_bin ho hx hy (by simp [go_sem]) fun w => by rw [binOp_sub]; simp [Op.intArith]
theorem ov_eql {T T' : TypeId} {x y : Operand} {k : IntKind} {p q : Int} (ho : o.op = .binOp .eql T x y T') (hx : opv e x = some (.int k p)) (hy : opv e y = some (.int k q)) :
    OpV P n o e l (.bool (p == q)) := ov_bin ho hx hy (by simp [go_sem]) fun w => by rw [binOp_eql]; rfl
theorem ov_neq {T T' : TypeId} {x y : Operand} {k : IntKind} {p q : Int} (ho : o.op = .binOp .neq T x y T') (hx : opv e x = some (.int k p)) (hy : opv e y = some (.int k q)) :
    OpV P n o e l (.bool (p != q)) := ov_bin ho hx hy (by simp [go_sem]) fun w => by rw [binOp_neq]; rfl
theorem ov_lss {T T' : TypeId} {x y : Operand} {k : IntKind} {p q : Int} (ho : o.op = .binOp .lss T x y T') (hx : opv e x = some (.int k p)) (hy : opv e y = some (.int k q)) :
    OpV P n o e l (.bool (decide (p < q))) := ov_bin ho hx hy (by simp [go_sem]) fun w => by rw [binOp_lss]; rfl
theorem ov_leq {T T' : TypeId} {x y : Operand} {k : IntKind} {p q : Int} (ho : o.op = .binOp .leq T x y T') (hx : opv e x = some (.int k p)) (hy : opv e y = some (.int k q)) :
    OpV P n o e l (.bool (decide (p ≤ q))) := ov_bin ho hx hy (by simp [go_sem]) fun w => by rw [binOp_leq]; rfl
theorem ov_gtr {T T' : TypeId} {x y : Operand} {k : IntKind} {p q : Int} (ho : o.op = .binOp .gtr T x y T') (hx : opv e x = some (.int k p)) (hy : opv e y = some (.int k q)) :
    OpV P n o e l (.bool (decide (q < p))) := ov_bin ho hx hy (by simp [go_sem]) fun w => by rw [binOp_gtr]; rfl
theorem ov_geq {T T' : TypeId} {x y : Operand} {k : IntKind} {p q : Int} (ho : o.op = .binOp .geq T x y T') (hx : opv e x = some (.int k p)) (hy : opv e y = some (.int k q)) :
    OpV P n o e l (.bool (decide (q ≤ p))) := ov_bin ho hx hy (by simp [go_sem]) fun w => by rw [binOp_geq]; rfl
theorem ov_and {T T' : TypeId} {x y : Operand} {k : IntKind} {p q : Int} (ho : o.op = .binOp .and T x y T') (hx : opv e x = some (.int k p)) (hy : opv e y = some (.int k q)) :
    OpV P n o e l (.int k (bits .and k p q)) := ov_bin ho hx hy (by simp [go_sem]) fun w => by rw [binOp_and, intBits_and]; rfl
theorem ov_or {T T' : TypeId} {x y : Operand} {k : IntKind} {p q : Int} (ho : o.op = .binOp .or T x y T') (hx : opv e x = some (.int k p)) (hy : opv e y = some (.int k q)) :
    OpV P n o e l (.int k (bits .or k p q)) := ov_bin ho hx hy (by simp [go_sem]) fun w => by rw [binOp_or, intBits_or]; rfl
theorem ov_xor {T T' : TypeId} {x y : Operand} {k : IntKind} {p q : Int} (ho : o.op = .binOp .xor T x y T') (hx : opv e x = some (.int k p)) (hy : opv e y = some (.int k q)) :
    OpV P n o e l (.int k (bits .xor k p q)) := ov_bin ho hx hy (by simp [go_sem]) fun w => by rw [binOp_xor, intBits_xor]; rfl
theorem ov_shr {T T' : TypeId} {x y : Operand} {k k' : IntKind} {p q : Int} (ho : o.op = .binOp .shr T x y T') (hx : opv e x = some (.int k p)) (hy : opv e y = some (.int k' q)) (h : 0 ≤ q ∧ q ≤ k.bits) :
    OpV P n o e l (.int k (p / 2 ^ q.toNat)) := ov_bin ho hx hy (by simp [go_sem]) fun w => by rw [binOp_shr, shift_shr _ _ _ _ h.1 h.2]; rfl
theorem ov_shl {T T' : TypeId} {x y : Operand} {k k' : IntKind} {p q : Int} (ho : o.op = .binOp .shl T x y T') (hx : opv e x = some (.int k p)) (hy : opv e y = some (.int k' q)) (h : 0 ≤ q ∧ q ≤ k.bits) :
    OpV P n o e l (.int k (k.wrap (p * 2 ^ q.toNat))) := ov_bin ho hx hy (by simp [go_sem]) fun w => by rw [binOp_shl, shift_shl _ _ _ _ h.1 h.2]; rfl

/-! ### bools, strings, pointers, slices compared -/
theorem eql_run {T : TypeId} {u v : Value} {b : Bool} {w : World} (hb : binOp .eql T u v = (do pure (.bool (← Op.equal T u v)))) (h : (Op.equalIn (9999 + 1) T u v).run P w = .ok b w) : (binOp .eql T u v).run P w = .ok (.bool b) w := by
  rw [hb]; show ((Op.equalIn (9999 + 1) T u v) >>= fun b => pure (Value.bool b)).run P w = _; rw [Sem.run_bind, h]; rfl
theorem neq_run {T : TypeId} {u v : Value} {b : Bool} {w : World} (hb : binOp .neq T u v = (do pure (.bool (!(← Op.equal T u v))))) (h : (Op.equalIn (9999 + 1) T u v).run P w = .ok b w) : (binOp .neq T u v).run P w = .ok (.bool (!b)) w := by
  rw [hb]; show ((Op.equalIn (9999 + 1) T u v) >>= fun b => pure (Value.bool (!b))).run P w = _; rw [Sem.run_bind, h]; rfl
theorem ov_beql {T T' : TypeId} {x y : Operand} {p q : Bool} (ho : o.op = .binOp .eql T x y T') (hx : opv e x = some (.bool p)) (hy : opv e y = some (.bool q)) (hT : P.underlying T = some .bool) :
    OpV P n o e l (.bool (p == q)) := ov_bin ho hx hy (eqGuard_at_bool _ _ _ _ _ _) fun w => eql_run rfl (run_equalIn_bool w _ T p q hT)
theorem ov_bneq {T T' : TypeId} {x y : Operand} {p q : Bool} (ho : o.op = .binOp .neq T x y T') (hx : opv e x = some (.bool p)) (hy : opv e y = some (.bool q)) (hT : P.underlying T = some .bool) :
    OpV P n o e l (.bool (!(p == q))) := ov_bin ho hx hy (eqGuard_at_bool _ _ _ _ _ _) fun w => neq_run rfl (run_equalIn_bool w _ T p q hT)
theorem ov_seql {T T' : TypeId} {x y : Operand} {p q : ByteArray} (ho : o.op = .binOp .eql T x y T') (hx : opv e x = some (.string p)) (hy : opv e y = some (.string q)) :
    OpV P n o e l (.bool (p == q)) := ov_bin ho hx hy (eqGuard_at_string _ _ _ _ _ _) fun _ => by rw [beq_toListBytes]; rfl
theorem ov_sneq {T T' : TypeId} {x y : Operand} {p q : ByteArray} (ho : o.op = .binOp .neq T x y T') (hx : opv e x = some (.string p)) (hy : opv e y = some (.string q)) :
    OpV P n o e l (.bool (!(p == q))) := ov_bin ho hx hy (eqGuard_at_string _ _ _ _ _ _) fun _ => by rw [beq_toListBytes]; rfl
theorem ov_slss {T T' : TypeId} {x y : Operand} {p q : ByteArray} (ho : o.op = .binOp .lss T x y T') (hx : opv e x = some (.string p)) (hy : opv e y = some (.string q)) :
    OpV P n o e l (.bool (Op.bytesLess p.toList q.toList)) := ov_bin ho hx hy (eqGuard_at_string _ _ _ _ _ _) fun _ => rfl
theorem ov_sleq {T T' : TypeId} {x y : Operand} {p q : ByteArray} (ho : o.op = .binOp .leq T x y T') (hx : opv e x = some (.string p)) (hy : opv e y = some (.string q)) :
    OpV P n o e l (.bool (Op.bytesLess p.toList q.toList || p == q)) := ov_bin ho hx hy (eqGuard_at_string _ _ _ _ _ _) fun _ => by rw [beq_toListBytes]; rfl
theorem ov_peql {T T' E : TypeId} {x y : Operand} {p : Option Addr} (ho : o.op = .binOp .eql T x y T') (hx : opv e x = some (.pointer p)) (hy : opv e y = some (.pointer none)) (hT : P.underlying T = some (.pointer E)) :
    OpV P n o e l (.bool p.isNone) := ov_bin ho hx hy (eqGuard_at_pointer _ _ _ _ _ _) fun w => eql_run rfl (run_equalIn_pointer_nil w _ T p (by simp [Program.pointee, hT]))
theorem ov_pneq {T T' E : TypeId} {x y : Operand} {p : Option Addr} (ho : o.op = .binOp .neq T x y T') (hx : opv e x = some (.pointer p)) (hy : opv e y = some (.pointer none)) (hT : P.underlying T = some (.pointer E)) :
    OpV P n o e l (.bool (!p.isNone)) := ov_bin ho hx hy (eqGuard_at_pointer _ _ _ _ _ _) fun w => neq_run rfl (run_equalIn_pointer_nil w _ T p (by simp [Program.pointee, hT]))
theorem ov_leql {T T' E : TypeId} {x y : Operand} {p : Option Addr} {k c : Nat} (ho : o.op = .binOp .eql T x y T') (hx : opv e x = some (.slice p k c)) (hy : opv e y = some (.slice none 0 0)) (hT : P.underlying T = some (.slice E)) :
    OpV P n o e l (.bool p.isNone) := ov_bin ho hx hy (eqGuard_at_slice _ _ _ _ _ _ _ _) fun w => eql_run rfl (Go.run_equalIn_slice_nil w _ T E p k c hT)
theorem ov_not {T : TypeId} {x : Operand} {p : Bool} (ho : o.op = .unOp .not T x) (hx : opv e x = some (.bool p)) : OpV P n o e l (.bool (!p)) := fun a w hf _ => by
  simp [execOp, ho, hf.opv hx, Op.unary]

/-! ### lengths, conversions -/
theorem ov_lenS {c : Call} {x : Operand} {T : TypeId} {p : ByteArray} (ho : o.op = .call c) (hc : c = { callee := .builtin .len, args := #[x], argTypes := #[T] }) (hx : opv e x = some (.string p)) (hT : P.underlying T = some .string) :
    OpV P n o e l (.int .i64 p.size) := fun a w hf _ => by
  subst hc
  simp [execOp, ho, resolve, invoke, builtin, hf.opv hx, Builtin.len_, run_underlying hT, goInt, Result.andThen]
theorem ov_lenL {c : Call} {x : Operand} {T E : TypeId} {p : Option Addr} {k m : Nat} (ho : o.op = .call c) (hc : c = { callee := .builtin .len, args := #[x], argTypes := #[T] }) (hx : opv e x = some (.slice p k m)) (hT : P.underlying T = some (.slice E)) :
    OpV P n o e l (.int .i64 k) := fun a w hf _ => by
  subst hc
  simp [execOp, ho, resolve, invoke, builtin, hf.opv hx, Builtin.len_, run_underlying hT, goInt, Result.andThen]
theorem ov_convInt {S D : TypeId} {x : Operand} {k k' : IntKind} {p : Int} {d : TypeDesc} (ho : o.op = .convert S D x) (hx : opv e x = some (.int k p)) (hS : P.underlying S = some d) (hD : P.underlying D = some (.int k')) :
    OpV P n o e l (.int k' (k'.wrap p)) := fun a w hf _ => by
  simp [execOp, ho, hf.opv hx, convert, run_underlying hS, run_underlying hD, Conv.intToInt, Result.andThen]
theorem ov_max {c : Call} {x y : Operand} {T T' : TypeId} {k k' : IntKind} {p q : Int} (ho : o.op = .call c) (hc : c = { callee := .builtin .max, args := #[x, y], argTypes := #[T, T'] }) (hx : opv e x = some (.int k p)) (hy : opv e y = some (.int k' q)) :
    OpV P n o e l (.int k (if q > p then q else p)) := fun a w hf _ => by
  subst hc
  simp [execOp, ho, resolve, invoke, builtin, hf.opv hx, hf.opv hy, Builtin.max_, Builtin.max2]
theorem ov_min {c : Call} {x y : Operand} {T T' : TypeId} {k k' : IntKind} {p q : Int} (ho : o.op = .call c) (hc : c = { callee := .builtin .min, args := #[x, y], argTypes := #[T, T'] }) (hx : opv e x = some (.int k p)) (hy : opv e y = some (.int k' q)) :
    OpV P n o e l (.int k (if q < p then q else p)) := fun a w hf _ => by
  subst hc
  simp [execOp, ho, resolve, invoke, builtin, hf.opv hx, hf.opv hy, Builtin.min_, Builtin.min2]

/-! ### memory -/
theorem oe_ret {v : Value} {R : Value → World → Prop} (hrun : ∀ a w, Fr n e a → St s l w → ∃ w', (execOp a.eval o).run P w = .ok (.value v) w' ∧ R v w') : OpE P s n o e l R := fun a w K Q hf hs hK => by
  obtain ⟨w', h1, h2⟩ := hrun a w hf hs
  unfold Oper.wp; rw [h1]; exact hK v w' h2
theorem oe_some {R : Value → World → Prop} (hrun : ∀ a w, Fr n e a → St s l w → ∃ v w', (execOp a.eval o).run P w = .ok (.value v) w' ∧ R v w') : OpE P s n o e l R := fun a w K Q hf hs hK => by
  obtain ⟨v, w', h1, h2⟩ := hrun a w hf hs
  unfold Oper.wp; rw [h1]; exact hK v w' h2
theorem oe_unit {R : Value → World → Prop} (hrun : ∀ a w, Fr n e a → St s l w → ∃ w', (execOp a.eval o).run P w = .ok .skip w' ∧ R undef w') : OpE P s n o e l R := fun a w K Q hf hs hK => by
  obtain ⟨w', h1, h2⟩ := hrun a w hf hs
  unfold Oper.wp; rw [h1]; exact hK undef w' h2

theorem St.put {w w' : World} {l' : List HP} (hs : St s l w) (hsat : Sat l' (hl w')) (h1 : w'.os = w.os) (h2 : w'.tape = w.tape) (h3 : w'.output = w.output) : St s l' w' :=
  ⟨hsat, h1.trans hs.os, h2.trans hs.tape, h3.trans hs.output⟩

theorem hl_setCell (w : World) (b off : Nat) (v : Value) (c : Array Value) (T : TypeId) (fz : Nat × Nat) (h : w.heap[b]? = some (.cells c T fz)) : hl (w.setCell ⟨b, off, none⟩ v) = (hl w).put b (.cells (c.setIfInBounds off v) T fz) := by
  funext x
  simp only [hl, World.setCell, HL.put, Array.getElem?_modify]
  by_cases hx : x = b
  · subst hx; simp [h]
  · have : ¬ b = x := fun e => hx e.symm
    simp [hx, this]

/-- A value that a cell may hold. -/
def cellOk (v : Value) : Prop := v.oneCell' = true
theorem run_store1 {w : World} {b off : Nat} {v : Value} {c : Array Value} {T : TypeId} (h : w.heap[b]? = some (.cells c T (0, 0))) (ho : off < c.size) (hv : v.oneCell' = true) :
    (store ⟨b, off, none⟩ v).run P w = .ok () (w.setCell ⟨b, off, none⟩ v) := by
  have hc : w.cell? ⟨b, off, none⟩ = some c[off] := by simp [World.cell?, h, ho]
  have hfz : w.frozen? ⟨b, off, none⟩ = false := by simp [World.frozen?, h]
  cases v <;> first | (simp [Value.oneCell'] at hv; done) | (simp only [store, Sem.run, hc, hfz]; simp; done)

theorem oe_store1 {T : TypeId} {x y : Operand} {b off i : Nat} {v : Value} {c : Array Value} {E : TypeId} (ho : o.op = .store T x y) (hx : opv e x = some (.pointer (some ⟨b, off, none⟩))) (hy : opv e y = some v) (h1 : One P T)
    (hi : l[i]? = some (pts b (.cells c E (0, 0)))) (hoff' : Nat.blt off c.size = true) (hv : v.oneCell' = true) :
    OpE P s n o e l (fun u w' => ∃ _ : Unit, u = undef ∧ St s (l.set i (pts b (.cells (c.setIfInBounds off v) E (0, 0)))) w') := oe_unit fun a w hf hs => by
  have hb : w.heap[b]? = some (.cells c E (0, 0)) := Sat.pts_at hi hs.sat
  have hoff : off < c.size := by simpa using hoff'
  have hcells : v.cells = #[v] := by cases v <;> first | rfl | (simp [Value.oneCell'] at hv)
  refine ⟨w.setCell ⟨b, off, none⟩ v, ?_, (), rfl, hs.put ?_ rfl rfl rfl⟩
  · simp only [execOp, ho, hf.opv hx, hf.opv hy, Instr.storeAt, Instr.sureAddr, storeVar, Sem.run_bind, Sem.run_pure, Result.andThen, h1.sizeOf, hcells, List.size_toArray, List.length_cons, List.length_nil, Nat.zero_add, ne_eq, not_true_eq_false, if_false, storeCells, Addr.add_zero', run_store1 hb hoff hv]
  · rw [hl_setCell w b off v c E (0, 0) hb]; exact Sat.write hi hs.sat

/-- a new variable -/
theorem oe_box {T : TypeId} {x : Operand} {v : Value} (ho : o.op = .box T x) (hx : opv e x = some v) :
    OpE P s n o e l (fun u w' => ∃ b : Nat, u = .pointer (some ⟨b, 0, none⟩) ∧ St s (pts b (.cells v.cells T (0, 0)) :: l) w') := oe_some fun a w hf hs => by
  refine ⟨_, w.alloc (.cells v.cells T), ?_, w.heap.size, rfl, hs.alloc _⟩
  simp only [execOp, ho, hf.opv hx, Instr.box, newVar, newRow, newObj, Sem.run_bind, Result.andThen, Sem.run]
  rfl
def Zero (P : Program) (T : TypeId) (z : Value) : Prop := ∃ i, P.info? T = some i ∧ i.zero = some z
theorem Zero.of {T : TypeId} {z : Value} (h : (P.info? T).bind (·.zero) = some z) : Zero P T z := by
  cases hi : P.info? T with
  | none => simp [hi] at h
  | some i => exact ⟨i, hi, by simpa [hi] using h⟩
theorem Zero.run {T : TypeId} {z : Value} {w : World} (h : Zero P T z) : (zeroValue T).run P w = .ok z w := by
  obtain ⟨i, hi, hz⟩ := h; simp [zeroValue, run_typeInfo' hi, Result.andThen, hz]
theorem oe_alloc {T : TypeId} {z : Value} (ho : o.op = .alloc T) (hz : Zero P T z) :
    OpE P s n o e l (fun u w' => ∃ b : Nat, u = .pointer (some ⟨b, 0, none⟩) ∧ St s (pts b (.cells z.cells T (0, 0)) :: l) w') := oe_some fun a w hf hs => by
  refine ⟨_, w.alloc (.cells z.cells T), ?_, w.heap.size, rfl, hs.alloc _⟩
  simp only [execOp, ho, Instr.alloc, newVar, newRow, newObj, Sem.run_bind, Result.andThen, hz.run]
  rfl

/-! ### structs by value -/
def Places (P : Program) (T : TypeId) (pl : List (Nat × Nat)) : Prop := ∃ fs, P.underlying T = some (.struct fs) ∧ (fs.toList.map fun f => (f.offset, P.cellsOf f.type)) = pl ∧ ∀ f ∈ fs.toList, ∃ i, P.info? f.type = some i
def placesB (P : Program) (T : TypeId) (pl : List (Nat × Nat)) : Bool :=
  match P.underlying T with
  | some (.struct fs) => (fs.toList.map fun f => (f.offset, P.cellsOf f.type)) == pl && fs.toList.all fun f => (P.info? f.type).isSome
  | _ => false
theorem Places.of {T : TypeId} {pl : List (Nat × Nat)} (h : placesB P T pl = true) : Places P T pl := by
  unfold placesB at h
  split at h
  · rename_i fs hfs
    simp only [Bool.and_eq_true, beq_iff_eq, List.all_eq_true] at h
    exact ⟨fs, hfs, h.1, fun f hf => Option.isSome_iff_exists.1 (h.2 f hf)⟩
  · cases h
theorem run_mapM_places {w : World} : ∀ (fs : List Field), (∀ f ∈ fs, ∃ i, P.info? f.type = some i) →
    (fs.mapM (fun f => do pure (f.offset, ← Go.sizeOf f.type) : Field → Sem (Nat × Nat))).run P w = .ok (fs.map fun f => (f.offset, P.cellsOf f.type)) w
  | [], _ => by simp [pure]
  | f :: fs, h => by
    obtain ⟨i, hi⟩ := h f (by simp)
    have ih := run_mapM_places (w := w) fs (fun g hg => h g (by simp [hg]))
    simp only [List.mapM_cons, Sem.run_bind, Go.sizeOf, run_typeInfo' hi, Result.andThen, Sem.run_pure, List.map_cons] at ih ⊢
    rw [ih]
    simp [Program.cellsOf, hi]
theorem ov_build {T : TypeId} {parts : Array (Nat × Operand)} {z : Value} {pl : List (Nat × Nat)} {vs : List Value} {cells : Array Value} (ho : o.op = .build T parts) (hz : Zero P T z) (hp : Places P T pl)
    (hv : opvs e (parts.toList.map (·.2)) = some vs) (hc : Instr.fill (pl.toArray[·]?) z.cells ((parts.toList.map (·.1)).zip vs) = some cells) : OpV P n o e l (.agg cells) := fun a w hf _ => by
  obtain ⟨fs, h1, h2, h3⟩ := hp
  have hm := run_mapM_places (P := P) (w := w) fs.toList h3
  rw [h2] at hm
  have hm' : (fs.mapM (fun f => do pure (f.offset, ← Go.sizeOf f.type) : Field → Sem (Nat × Nat))).run P w = .ok pl.toArray w := by
    rw [Array.mapM_eq_mapM_toList]; simp only [Sem.run_map, hm, Result.andThen]
  have hparts : (parts.map fun (i, x) => (i, a.eval x)).toList = (parts.toList.map (·.1)).zip vs := by
    rw [← hf.opvs hv, Array.toList_map, List.map_map, List.zip_map']; rfl
  simp only [execOp, ho, Instr.build, Sem.run_bind, hz.run, Result.andThen, run_underlying h1, hm', hparts, hc, Sem.run_pure]


theorem appendS_at {P : Program} (w : World) (t u ty e : TypeId) (i : TypeInfo) (ht : P.underlying t = some (.slice e)) (hu : P.underlying u = some .string) (hi : P.info? e = some i) (hz : i.zero = some (.int .u8 0))
    (hsize : i.size = 1) (hby : i.bytes = 1) (v : Value) (n : Nat) (xs : List Value) (hown : w.ownsRow 0 e 1 v n xs) (s : ByteArray) (h63 : n + s.size ≤ maxLen) (hbytes : n + s.size ≤ 140737488355328) :
    ∃ v' w', (Builtin.append_ #[t, u] ty #[v, .string s]).run P w = .ok v' w' ∧ w'.ownsRow 0 e 1 v' (n + s.size) (xs ++ strCells s) ∧ w.grownBy w' v.ownBlock ∧
      (v' = .slice none 0 0 ↔ v = .slice none 0 0 ∧ s.size = 0) ∧ (v'.ownBlock = v.ownBlock ∨ v'.ownBlock = some w.heap.size) := by
  obtain ⟨v', w', hr, h2, h3, h4⟩ := run_append_own_string (P := P) w 0 t u ty e i ht hu hi hz hsize hby v n xs hown s h63 hbytes (Nat.zero_le _)
  refine ⟨v', w', hr, h2, h3, h4, ?_⟩
  have hsmall : n + s.size ≤ 9223372036854775807 := by simp only [maxLen] at h63; omega
  have hxl : xs.length = n := by simpa using hown.1
  rcases hown.2 with ⟨rfl, rfl⟩ | ⟨g, cap, cur, rfl, _, hg, hnc, hcm, hcs, htake⟩
  · by_cases hm : s.size = 0
    · left; rw [h4.2 ⟨rfl, hm⟩]
    · have hr' := run_append_nil_string (P := P) w t u ty e i (.int .u8 0) ht hu hi hz s (by omega) (by omega) (by rw [hby]; omega)
      rw [hr] at hr'
      simp only [Result.ok.injEq] at hr'
      right; rw [hr'.1]; rfl
  · by_cases hroom : n + s.size ≤ cap
    · have hcs' : cur.size = cap := by simpa using hcs
      have hr' := run_append_room_string (P := P) w t u ty e i ht hu hi hsize g n cap cur hg s hroom (by omega)
      rw [hr] at hr'
      simp only [Result.ok.injEq] at hr'
      left; rw [hr'.1]; rfl
    · have holds : ∀ j u, xs[j]? = some u → w.cell? ((⟨g, 0, none⟩ : Addr).add j) = some u := hown.cells (g := g) rfl
      have hr' := run_append_grow_string (P := P) w t u ty e i (.int .u8 0) ht hu hi hz ⟨g, 0, none⟩ n cap xs (by rw [hsize]; simpa using hxl) holds s (by omega) (by omega) (by rw [hby]; exact growslice_fits (by omega) (by omega))
      rw [hr] at hr'
      simp only [Result.ok.injEq] at hr'
      right; rw [hr'.1]; rfl

/-! ### slices -/
/-- The value '.slice a n c' owns the cells xs (n elements of size cells each, of type E), in a row of its own; or it is nil. -/
def sl (E size : Nat) (a : Option Addr) (n c : Nat) (xs : List Value) : HP := fun h =>
  xs.length = n * size ∧ ((n = 0 ∧ c = 0) ∨ ∃ g cur, a = some ⟨g, 0, none⟩ ∧ h g = some (.cells cur E (0, 0)) ∧ n ≤ c ∧ c ≤ maxLen ∧ cur.size = c * size ∧ cur.toList.take (n * size) = xs)
/-- The value '.slice a n ..' shows the cells xs; the row is its own. -/
def rs (size : Nat) (a : Option Addr) (n : Nat) (xs : List Value) : HP := fun h =>
  xs.length = n * size ∧ (n = 0 ∨ ∃ g off cur E fz, a = some ⟨g, off, none⟩ ∧ h g = some (.cells cur E fz) ∧ (cur.toList.drop off).take (n * size) = xs)
theorem rs_of_sl {E size : Nat} {a : Option Addr} {n c : Nat} {xs : List Value} (h : HL) (hs : sl E size a n c xs h) : rs size a n xs h := by
  refine ⟨hs.1, ?_⟩
  rcases hs.2 with ⟨h1, _⟩ | ⟨g, cur, h1, h2, _, _, _, h6⟩
  · exact .inl h1
  · exact .inr ⟨g, 0, cur, E, (0, 0), h1, h2, by simpa using h6⟩
theorem sl_len {E size : Nat} {a : Option Addr} {n c : Nat} {xs : List Value} {h : HL} (hs : sl E size a n c xs h) : xs.length = n * size ∧ n ≤ maxLen := by
  refine ⟨hs.1, ?_⟩
  rcases hs.2 with ⟨h1, _⟩ | ⟨g, cur, h1, h2, h3, h4, _⟩
  · rw [h1]; simp [maxLen]
  · omega
theorem sl_nil {E size : Nat} : ∀ h, sl E size none 0 0 [] h := fun _ => ⟨by simp, .inl ⟨rfl, rfl⟩⟩
theorem Sat.sl_new {E size : Nat} {l : List HP} {h : HL} (hs : Sat l h) : Sat (sl E size none 0 0 [] :: l) h :=
  ⟨fun _ => none, h, fun _ => .inl rfl, fun _ _ e => (by cases e), HL.le.refl _, sl_nil _, hs⟩
/-- where a slice that is not empty lies -/
theorem rs_some {size : Nat} {a : Option Addr} {n : Nat} {xs : List Value} {h : HL} (hs : rs size a n xs h) (hn : 0 < n) : ∃ g off, a = some ⟨g, off, none⟩ ∧ ∀ j v, xs[j]? = some v → ∃ c T fz, h g = some (.cells c T fz) ∧ c[off + j]? = some v := by
  rcases hs.2 with h1 | ⟨g, off, cur, E, fz, h1, h2, h3⟩
  · omega
  · refine ⟨g, off, h1, fun j v hv => ⟨cur, E, fz, h2, ?_⟩⟩
    rw [← h3, List.getElem?_take] at hv
    split at hv
    · rw [List.getElem?_drop] at hv; simpa using hv
    · cases hv

theorem ownsRow_of_sl {w : World} {E size : Nat} {a : Option Addr} {n c : Nat} {xs : List Value} {h : HL} (hs : sl E size a n c xs h) (hle : h.le (hl w)) (ha : c = 0 → a = none) : w.ownsRow 0 E size (.slice a n c) n xs := by
  refine ⟨hs.1, ?_⟩
  rcases hs.2 with ⟨rfl, rfl⟩ | ⟨g, cur, rfl, h2, h3, h4, h5, h6⟩
  · rw [ha rfl]; exact .inl ⟨rfl, rfl⟩
  · exact .inr ⟨g, c, cur, rfl, Nat.zero_le _, hle _ _ h2, h3, h4, h5, h6⟩

/-- what grew: the row, or a new block; the rest is as it was -/
theorem Sat.grown {E size : Nat} {a : Option Addr} {n c : Nat} {xs : List Value} {w w' : World} {v' : Value} {n' : Nat} {xs' : List Value} (hs : Sat (sl E size a n c xs :: l) (hl w)) (ha : c = 0 → a = none) (hg : w.grownBy w' (Value.slice a n c).ownBlock)
    (hown : w'.ownsRow 0 E size v' n' xs') (hat : v'.ownBlock = (Value.slice a n c).ownBlock ∨ v'.ownBlock = some w.heap.size) : ∃ a' c', v' = .slice a' n' c' ∧ Sat (sl E size a' n' c' xs' :: l) (hl w') := by
  obtain ⟨h1, h2, d, le1, le2, hsl, hrest⟩ := hs
  have own : ∀ g, (Value.slice a n c).ownBlock = some g → h2 g = none := by
    intro g hg'
    rcases hsl.2 with ⟨_, h0⟩ | ⟨g', cur, rfl, e2, _⟩
    · rw [ha h0] at hg'; simp [Value.ownBlock] at hg'
    · simp [Value.ownBlock] at hg'; subst hg'
      exact (d g').resolve_left (by rw [e2]; simp)
  have keep : h2.le (hl w') := by
    intro b ob hb
    have hlt : b < w.heap.size := by
      have := le2 b ob hb
      exact (Array.getElem?_eq_some_iff.1 this).1
    have hne : some b ≠ (Value.slice a n c).ownBlock := fun e => by rw [own b e.symm] at hb; cases hb
    show w'.heap[b]? = some ob
    rw [hg.block b hlt hne]; exact le2 b ob hb
  rcases hown.2 with ⟨rfl, hn'⟩ | ⟨g', cap, cur, rfl, _, hb, hc1, hc2, hc3, hc4⟩
  · refine ⟨none, 0, by rw [hn'], fun _ => none, h2, fun _ => .inl rfl, fun _ _ e => (by cases e), keep, ?_, hrest⟩
    exact ⟨hown.1, .inl ⟨hn', rfl⟩⟩
  · refine ⟨some ⟨g', 0, none⟩, cap, rfl, fun x => if x = g' then some (.cells cur E (0, 0)) else none, h2, ?_, ?_, keep, ?_, hrest⟩
    · intro x
      by_cases hx : x = g'
      · subst hx
        right
        rcases hat with h | h
        · exact own x (h ▸ rfl)
        · have hxs : x = w.heap.size := by simpa [Value.ownBlock] using h
          cases hh : h2 x with
          | none => rfl
          | some ob =>
            have := le2 x ob hh
            have := (Array.getElem?_eq_some_iff.1 this).1
            omega
      · left; simp [hx]
    · intro x ob hx
      by_cases hx' : x = g'
      · subst hx'; simp at hx; subst hx; exact hb
      · simp [hx'] at hx
    · exact ⟨hown.1, .inr ⟨g', cur, rfl, by simp, hc1, hc2, hc3, hc4⟩⟩

/-- what append needs to know of an element type -/
structure Elem (P : Program) (T E size bytes : Nat) : Prop where
  sl : P.underlying T = some (.slice E)
  info : ∃ i z, P.info? E = some i ∧ i.zero = some z ∧ i.size = size ∧ i.bytes = bytes ∧ z.cells.size = size
  pos : 0 < size
def elemB (P : Program) (T E size bytes : Nat) : Bool :=
  (match P.underlying T with | some (.slice e) => e == E | _ => false) &&
  (match P.info? E with | some i => i.size == size && i.bytes == bytes && (match i.zero with | some z => z.cells.size == size | none => false) | none => false) && decide (0 < size)
theorem Elem.of {T E size bytes : Nat} (h : elemB P T E size bytes = true) : Elem P T E size bytes := by
  unfold elemB at h
  simp only [Bool.and_eq_true, decide_eq_true_eq] at h
  obtain ⟨⟨h1, h2⟩, h3⟩ := h
  refine ⟨?_, ?_, h3⟩
  · split at h1
    · rename_i e he; rw [he, beq_iff_eq.1 h1]
    · cases h1
  · split at h2
    · rename_i i hi
      simp only [Bool.and_eq_true, beq_iff_eq] at h2
      obtain ⟨⟨h4, h5⟩, h6⟩ := h2
      split at h6
      · rename_i z hz; exact ⟨i, z, hi, hz, h4, h5, by simpa using h6⟩
      · cases h6
    · cases h2

/-- nothing is owned: a new row -/
theorem append_fresh {T E size bytes tx ty : Nat} {a : Option Addr} {x : Value} {m : Nat} {news : List Value} {w : World} (hT : Elem P T E size bytes) (hs : Src P size tx x m news w) (h63 : m ≤ maxLen) (hb : m * bytes ≤ 140737488355328) :
    ∃ a' c' w', (Builtin.append_ #[T, tx] ty #[.slice a 0 0, x]).run P w = .ok (.slice a' m c') w' ∧ (∀ l, Sat l (hl w) → Sat (sl E size a' m c' news :: l) (hl w')) ∧ w'.os = w.os ∧ w'.tape = w.tape ∧ w'.output = w.output := by
  obtain ⟨inf, z, i1, i2, i3, i4, i5⟩ := hT.info
  subst i3
  rcases Nat.eq_zero_or_pos m with rfl | hm
  · have hnil : news = [] := List.length_eq_zero_iff.1 (by rw [hs.newsLen]; simp)
    subst hnil
    exact ⟨a, 0, w, run_append_nothing w T tx ty E inf hT.sl i1 a 0 0 (Nat.le_refl _) x hs, fun l h => ⟨fun _ => none, hl w, fun _ => .inl rfl, fun _ _ e => (by cases e), HL.le.refl _, ⟨by simp, .inl ⟨rfl, rfl⟩⟩, h⟩, rfl, rfl, rfl⟩
  · have hf : (Builtin.firstCells inf.size 0 (.slice a 0 0)).run P w.drew = .ok ([] : List Value).toArray w.drew := by
      cases a with
      | none => exact run_firstCells_none _ _ _ _ _
      | some ad => exact run_firstCells_some _ _ _ _ _ _ [] (by simp) (by simp)
    have hsmall : m ≤ 9223372036854775807 := by simp only [maxLen] at h63; omega
    have hr := run_append_grow_src (P := P) w T tx ty E inf z hT.sl i1 i2 a 0 0 [] hf x m news hs (by omega) (by simp; omega) (by rw [i4, Nat.zero_add]; exact growslice_fits (by omega) (by omega))
    simp only [Nat.zero_add, List.nil_append] at hr
    refine ⟨_, _, _, hr, fun l h => ?_, rfl, rfl, rfl⟩
    have hge := grownCap_ge w m 0 E
    have hcm : grownCap w m 0 E ≤ maxLen := grownCap_le_maxLen w m 0 E h63
    rw [hl_alloc]
    refine Sat.head_mono ?_ (Sat.new (hl_fresh w.drew) (show Sat l (hl w.drew) from h))
    intro k hk
    refine ⟨hs.newsLen, .inr ⟨w.heap.size, _, rfl, hk, hge, hcm, ?_, ?_⟩⟩
    · simp only [Array.size_append, List.size_toArray, size_zeroCells, i5, hs.newsLen, ← Nat.add_mul]
      congr 1
      omega
    · simp only [Array.toList_append]
      rw [← hs.newsLen]
      exact List.take_left
/-- append(s, nil...) -/
theorem oe_append0 {T E size bytes : Nat} {x y : Operand} {a : Option Addr} {k c cc : Nat} {xs : List Value} {i : Nat} (ho : o.op = .call { callee := .builtin .append, args := #[x, y], argTypes := #[T, T] })
    (hT : Elem P T E size bytes) (hx : opv e x = some (.slice a k c)) (hy : opv e y = some (.slice none 0 cc)) (hi : l[i]? = some (sl E size a k c xs)) : OpV P n o e l (.slice a k c) := fun ac w hf hs => by
  obtain ⟨inf, z, i1, i2, i3, i4, i5⟩ := hT.info
  obtain ⟨h', hle, hsl⟩ := Sat.pick hi hs
  have hkc : k ≤ c := by rcases hsl.2 with ⟨h1, h2⟩ | ⟨_, _, _, _, h3, _⟩ <;> omega
  have hr := run_append_nothing (P := P) w T T o.type E inf hT.sl i1 a k c hkc (.slice none 0 cc) (Src.ofNil w hT.sl cc)
  simp only [execOp, ho, resolve, invoke, builtin, Sem.run_bind, Sem.run_pure, Result.andThen_ok, List.map_toArray, List.map_cons, List.map_nil, hf.opv hx, hf.opv hy, hr]

/-- append(s, xs...) where xs lies somewhere -/
theorem oe_append {T E size bytes : Nat} {x y : Operand} {a : Option Addr} {k c m cc : Nat} {ad : Addr} {xs news : List Value} {i : Nat} (ho : o.op = .call { callee := .builtin .append, args := #[x, y], argTypes := #[T, T] })
    (hT : Elem P T E size bytes) (hx : opv e x = some (.slice a k c)) (hy : opv e y = some (.slice (some ad) m cc)) (hi : l[i]? = some (sl E size a k c xs)) (hlen : news.length = m * size)
    (hn : ∀ w, Sat l (hl w) → ∀ j u, news[j]? = some u → w.cell? (ad.add j) = some u) (h1 : ∀ u ∈ news, u.oneCell' = true) (h63 : k + m ≤ maxLen) (hb : (k + m) * bytes ≤ 140737488355328) :
    OpE P s n o e l (fun v w' => ∃ q : Option Addr × Nat, v = .slice q.1 (k + m) q.2 ∧ St s (sl E size q.1 (k + m) q.2 (xs ++ news) :: l.eraseIdx i) w') := oe_some fun ac w hf hs => by
  obtain ⟨inf, z, i1, i2, i3, i4, i5⟩ := hT.info
  have hfr := Sat.front hi hs.sat
  obtain ⟨h', hle, hsl⟩ := Sat.pick hi hs.sat
  by_cases ha : c = 0 → a = none
  rotate_left
  · obtain ⟨hc0, _⟩ := not_imp.1 ha
    have hk0 : k = 0 := by rcases hsl.2 with ⟨h1, h2⟩ | ⟨_, _, _, _, h3, _⟩ <;> omega
    subst hc0; subst hk0
    have hxs : xs = [] := List.length_eq_zero_iff.1 (by rw [hsl.1]; simp)
    subst hxs
    obtain ⟨a', c', w', hr, h2, h3, h4, h5⟩ := append_fresh (P := P) (ty := o.type) (a := a) (w := w) hT (Src.ofSlice w hT.sl ad m cc news hlen (hn w hs.sat) h1) (by omega) (by simpa using hb)
    refine ⟨_, w', ?_, ⟨a', c'⟩, rfl, hs.put (by simpa using h2 _ hfr.drop1) h3 h4 h5⟩
    simp only [execOp, ho, resolve, invoke, builtin, Sem.run_bind, Sem.run_pure, Result.andThen_ok, List.map_toArray, List.map_cons, List.map_nil, hf.opv hx, hf.opv hy, hr, Nat.zero_add]
  obtain ⟨v', w', hr, h2, h3, _, h5⟩ := run_append_own_at (P := P) w 0 T o.type E inf z size bytes hT.sl i1 i2 i3 i4 i5 hT.pos (.slice a k c) k xs (ownsRow_of_sl hsl hle ha) ad m cc news hlen (hn w hs.sat) h1 h63 hb (Nat.zero_le _)
  obtain ⟨a', c', rfl, hsat⟩ := Sat.grown hfr ha h3 h2 h5
  refine ⟨_, w', ?_, ⟨a', c'⟩, rfl, hs.put hsat h3.os h3.tape h3.output⟩
  simp only [execOp, ho, resolve, invoke, builtin, Sem.run_bind, Sem.run_pure, Result.andThen_ok, List.map_toArray, List.map_cons, List.map_nil, hf.opv hx, hf.opv hy, hr]

/-- append(s, t...) where t is a string -/
theorem oe_appendS {T U E : Nat} {x y : Operand} {a : Option Addr} {k c : Nat} {t : ByteArray} {xs : List Value} {i : Nat} (ho : o.op = .call { callee := .builtin .append, args := #[x, y], argTypes := #[T, U] })
    (hT : Elem P T E 1 1) (hz : Zero P E (.int .u8 0)) (hU : P.underlying U = some .string) (hx : opv e x = some (.slice a k c)) (hy : opv e y = some (.string t)) (hi : l[i]? = some (sl E 1 a k c xs)) (h63 : k + t.size ≤ maxLen) (hb : k + t.size ≤ 140737488355328) :
    OpE P s n o e l (fun v w' => ∃ q : Option Addr × Nat, v = .slice q.1 (k + t.size) q.2 ∧ St s (sl E 1 q.1 (k + t.size) q.2 (xs ++ strCells t) :: l.eraseIdx i) w') := oe_some fun ac w hf hs => by
  obtain ⟨inf, z, i1, i2, i3, i4, i5⟩ := hT.info
  obtain ⟨inf', j1, j2⟩ := hz
  obtain rfl : inf = inf' := by rw [i1] at j1; exact Option.some.inj j1
  have hfr := Sat.front hi hs.sat
  obtain ⟨h', hle, hsl⟩ := Sat.pick hi hs.sat
  by_cases ha : c = 0 → a = none
  rotate_left
  · obtain ⟨hc0, _⟩ := not_imp.1 ha
    have hk0 : k = 0 := by rcases hsl.2 with ⟨h1, h2⟩ | ⟨_, _, _, _, h3, _⟩ <;> omega
    subst hc0; subst hk0
    have hxs : xs = [] := List.length_eq_zero_iff.1 (by simpa using hsl.1)
    subst hxs
    have hsrc : Src P 1 U (.string t) t.size (strCells t) w := Src.ofString w hU t
    obtain ⟨a', c', w', hr, h2, h3, h4, h5⟩ := append_fresh (P := P) (ty := o.type) (a := a) (w := w) hT hsrc (by omega) (by simpa using hb)
    refine ⟨_, w', ?_, ⟨a', c'⟩, rfl, hs.put (by simpa using h2 _ hfr.drop1) h3 h4 h5⟩
    simp only [execOp, ho, resolve, invoke, builtin, Sem.run_bind, Sem.run_pure, Result.andThen_ok, List.map_toArray, List.map_cons, List.map_nil, hf.opv hx, hf.opv hy, hr, Nat.zero_add]
  have hown := ownsRow_of_sl (w := w) hsl hle ha
  obtain ⟨v', w', hr, h2, h3, h4, h5⟩ := appendS_at (P := P) w T U o.type E inf hT.sl hU i1 j2 i3 i4 (.slice a k c) k xs hown t h63 hb
  obtain ⟨a', c', rfl, hsat⟩ := Sat.grown hfr ha h3 h2 h5
  refine ⟨_, w', ?_, ⟨a', c'⟩, rfl, hs.put hsat h3.os h3.tape h3.output⟩
  simp only [execOp, ho, resolve, invoke, builtin, Sem.run_bind, Sem.run_pure, Result.andThen_ok, List.map_toArray, List.map_cons, List.map_nil, hf.opv hx, hf.opv hy, hr]

end
end Go.Proofs.Ytbjdadekheoebaa
