/-
  No cell of these rows narrows 'for every input' (looked for: loops, veiled, ifaces, maps, wideKeys, modest, calm, conditions, laid).
  DERIVED. THE GIVEN ROWS OF THIS SEAT. 10 by the template 'for every input the law returns true; each argument reads behind the call as it read before'; 0 by the template 'total and deterministic' (their statements: YtbjdadekheoebaaTotals.lean).
  GIVEN WITH THE SEED: the statements are not yours to turn. If you find one false, say at which input.
  Laid BY PROGRAM, IN A SANDBOX (cutbox-rows.mjs): the forced cells as the released guide's own fill.sh prints them over the translation 3678c2a6c5af1d5f… (all of the seat's roots in one cut). By AI agents, Wed Nov 11 2026. No macro, syntax, notation, axiom, sorry.
-/
import Derived.Test.YtbjdadekheoebaaChecked
import GoSem.Claim
import GoSem.ClaimJoined
import GoSem.ClaimMapViews
import Derived.JoinedTies
import Derived.KernelRfl
namespace Go.Proofs.Ytbjdadekheoebaa
/- THE CELL 'sum', in the pinned program and in every row, IS THE sha256 OF THE DUMP (.gsa) THAT YtbjdadekheoebaaProg.lean LOADS. Nothing in Lean hashes anything: it is a label: what it is worth is what the hold of that sum in a sandbox is worth. -/
noncomputable def Try.pinned : Pinned := { name := "ytbjdadekheoebaa", sum := "3678c2a6c5af1d5f524afd4002e06ef7029b37791fc908d0f36bf9121bade591", checked := Try.checked }
namespace Rows
def none {H : Type} : Left H := { results := [], args := [] }

/-- 'latchkeylaw16.ProposerNone': WHATEVER THE INPUT: true; the input reads as it did. -/
def proposerNoneSpec : ChangeSpec := { name := "proposerNone", fn := fun _ => fun
  | [d] => { results := [.lit (.bool true)], args := [d] }
  | _ => none }
def proposerNoneRow : OpenClaim := { program := "ytbjdadekheoebaa", sum := "3678c2a6c5af1d5f524afd4002e06ef7029b37791fc908d0f36bf9121bade591", func := "latchkey/latchkeylaw16.ProposerNone", spec := "proposerNone", unfollowed := true, recurses := true, apart := false }
def ProposerNoneSaid : Prop := proposerNoneRow.holds Try.pinned (OpenSpec.ofChange proposerNoneSpec)

/-- ITS FALSE NEIGHBOUR: 'it returns false'. Refute it at one input. -/
def proposerNoneWrong : ChangeSpec := { name := "proposerNone", fn := fun _ => fun
  | [d] => { results := [.lit (.bool false)], args := [d] }
  | _ => none }
def ProposerNoneWrongFalsely : Prop := proposerNoneRow.holds Try.pinned (OpenSpec.ofChange proposerNoneWrong)

/-- 'latchkeylaw05.DiskPlays': WHATEVER THE INPUT: true; the input reads as it did. -/
def diskPlaysSpec : ChangeSpec := { name := "diskPlays", fn := fun _ => fun
  | [d] => { results := [.lit (.bool true)], args := [d] }
  | _ => none }
def diskPlaysRow : OpenClaim := { program := "ytbjdadekheoebaa", sum := "3678c2a6c5af1d5f524afd4002e06ef7029b37791fc908d0f36bf9121bade591", func := "latchkey/latchkeylaw05.DiskPlays", spec := "diskPlays", unfollowed := true, recurses := true, apart := false }
def DiskPlaysSaid : Prop := diskPlaysRow.holds Try.pinned (OpenSpec.ofChange diskPlaysSpec)

/-- ITS FALSE NEIGHBOUR: 'it returns false'. Refute it at one input. -/
def diskPlaysWrong : ChangeSpec := { name := "diskPlays", fn := fun _ => fun
  | [d] => { results := [.lit (.bool false)], args := [d] }
  | _ => none }
def DiskPlaysWrongFalsely : Prop := diskPlaysRow.holds Try.pinned (OpenSpec.ofChange diskPlaysWrong)

/-- 'latchkeylaw18.SessionGoesOn': WHATEVER THE INPUT: true; the input reads as it did. -/
def sessionGoesOnSpec : ChangeSpec := { name := "sessionGoesOn", fn := fun _ => fun
  | [d1, d2] => { results := [.lit (.bool true)], args := [d1, d2] }
  | _ => none }
def sessionGoesOnRow : OpenClaim := { program := "ytbjdadekheoebaa", sum := "3678c2a6c5af1d5f524afd4002e06ef7029b37791fc908d0f36bf9121bade591", func := "latchkey/latchkeylaw18.SessionGoesOn", spec := "sessionGoesOn", unfollowed := true, recurses := true, apart := false }
def SessionGoesOnSaid : Prop := sessionGoesOnRow.holds Try.pinned (OpenSpec.ofChange sessionGoesOnSpec)

/-- ITS FALSE NEIGHBOUR: 'it returns false'. Refute it at one input. -/
def sessionGoesOnWrong : ChangeSpec := { name := "sessionGoesOn", fn := fun _ => fun
  | [d1, d2] => { results := [.lit (.bool false)], args := [d1, d2] }
  | _ => none }
def SessionGoesOnWrongFalsely : Prop := sessionGoesOnRow.holds Try.pinned (OpenSpec.ofChange sessionGoesOnWrong)

/-- 'latchkeylaw18.SessionPlays': WHATEVER THE INPUT: true; the input reads as it did. -/
def sessionPlaysSpec : ChangeSpec := { name := "sessionPlays", fn := fun _ => fun
  | [d] => { results := [.lit (.bool true)], args := [d] }
  | _ => none }
def sessionPlaysRow : OpenClaim := { program := "ytbjdadekheoebaa", sum := "3678c2a6c5af1d5f524afd4002e06ef7029b37791fc908d0f36bf9121bade591", func := "latchkey/latchkeylaw18.SessionPlays", spec := "sessionPlays", unfollowed := true, recurses := true, apart := false }
def SessionPlaysSaid : Prop := sessionPlaysRow.holds Try.pinned (OpenSpec.ofChange sessionPlaysSpec)

/-- ITS FALSE NEIGHBOUR: 'it returns false'. Refute it at one input. -/
def sessionPlaysWrong : ChangeSpec := { name := "sessionPlays", fn := fun _ => fun
  | [d] => { results := [.lit (.bool false)], args := [d] }
  | _ => none }
def SessionPlaysWrongFalsely : Prop := sessionPlaysRow.holds Try.pinned (OpenSpec.ofChange sessionPlaysWrong)

/-- 'latchkeylaw19.LocksTokens': WHATEVER THE INPUT: true; the input reads as it did. -/
def locksTokensSpec : ChangeSpec := { name := "locksTokens", fn := fun _ => fun
  | [d1, d2] => { results := [.lit (.bool true)], args := [d1, d2] }
  | _ => none }
def locksTokensRow : OpenClaim := { program := "ytbjdadekheoebaa", sum := "3678c2a6c5af1d5f524afd4002e06ef7029b37791fc908d0f36bf9121bade591", func := "latchkey/latchkeylaw19.LocksTokens", spec := "locksTokens", inPlace := ["slices.overlaps[int]"], unfollowed := true, recurses := true, apart := false }
def LocksTokensSaid : Prop := locksTokensRow.holds Try.pinned (OpenSpec.ofChange locksTokensSpec)

/-- ITS FALSE NEIGHBOUR: 'it returns false'. Refute it at one input. -/
def locksTokensWrong : ChangeSpec := { name := "locksTokens", fn := fun _ => fun
  | [d1, d2] => { results := [.lit (.bool false)], args := [d1, d2] }
  | _ => none }
def LocksTokensWrongFalsely : Prop := locksTokensRow.holds Try.pinned (OpenSpec.ofChange locksTokensWrong)

/-- 'latchkeylaw19.LocksAlone': WHATEVER THE INPUT: true; the input reads as it did. -/
def locksAloneSpec : ChangeSpec := { name := "locksAlone", fn := fun _ => fun
  | [d] => { results := [.lit (.bool true)], args := [d] }
  | _ => none }
def locksAloneRow : OpenClaim := { program := "ytbjdadekheoebaa", sum := "3678c2a6c5af1d5f524afd4002e06ef7029b37791fc908d0f36bf9121bade591", func := "latchkey/latchkeylaw19.LocksAlone", spec := "locksAlone", inPlace := ["slices.overlaps[int]"], unfollowed := true, recurses := true, apart := false }
def LocksAloneSaid : Prop := locksAloneRow.holds Try.pinned (OpenSpec.ofChange locksAloneSpec)

/-- ITS FALSE NEIGHBOUR: 'it returns false'. Refute it at one input. -/
def locksAloneWrong : ChangeSpec := { name := "locksAlone", fn := fun _ => fun
  | [d] => { results := [.lit (.bool false)], args := [d] }
  | _ => none }
def LocksAloneWrongFalsely : Prop := locksAloneRow.holds Try.pinned (OpenSpec.ofChange locksAloneWrong)

/-- 'latchkeylaw20.CountersPlays': WHATEVER THE INPUT: true; the input reads as it did. -/
def countersPlaysSpec : ChangeSpec := { name := "countersPlays", fn := fun _ => fun
  | [d] => { results := [.lit (.bool true)], args := [d] }
  | _ => none }
def countersPlaysRow : OpenClaim := { program := "ytbjdadekheoebaa", sum := "3678c2a6c5af1d5f524afd4002e06ef7029b37791fc908d0f36bf9121bade591", func := "latchkey/latchkeylaw20.CountersPlays", spec := "countersPlays", unfollowed := true, recurses := true, apart := false }
def CountersPlaysSaid : Prop := countersPlaysRow.holds Try.pinned (OpenSpec.ofChange countersPlaysSpec)

/-- ITS FALSE NEIGHBOUR: 'it returns false'. Refute it at one input. -/
def countersPlaysWrong : ChangeSpec := { name := "countersPlays", fn := fun _ => fun
  | [d] => { results := [.lit (.bool false)], args := [d] }
  | _ => none }
def CountersPlaysWrongFalsely : Prop := countersPlaysRow.holds Try.pinned (OpenSpec.ofChange countersPlaysWrong)

/-- 'latchkeylaw20.CountersReads': WHATEVER THE INPUT: true; the input reads as it did. -/
def countersReadsSpec : ChangeSpec := { name := "countersReads", fn := fun _ => fun
  | [d] => { results := [.lit (.bool true)], args := [d] }
  | _ => none }
def countersReadsRow : OpenClaim := { program := "ytbjdadekheoebaa", sum := "3678c2a6c5af1d5f524afd4002e06ef7029b37791fc908d0f36bf9121bade591", func := "latchkey/latchkeylaw20.CountersReads", spec := "countersReads", unfollowed := true, recurses := true, apart := false }
def CountersReadsSaid : Prop := countersReadsRow.holds Try.pinned (OpenSpec.ofChange countersReadsSpec)

/-- ITS FALSE NEIGHBOUR: 'it returns false'. Refute it at one input. -/
def countersReadsWrong : ChangeSpec := { name := "countersReads", fn := fun _ => fun
  | [d] => { results := [.lit (.bool false)], args := [d] }
  | _ => none }
def CountersReadsWrongFalsely : Prop := countersReadsRow.holds Try.pinned (OpenSpec.ofChange countersReadsWrong)

/-- 'latchkeylaw19.LocksReads': WHATEVER THE INPUT: true; the input reads as it did. -/
def locksReadsSpec : ChangeSpec := { name := "locksReads", fn := fun _ => fun
  | [d] => { results := [.lit (.bool true)], args := [d] }
  | _ => none }
def locksReadsRow : OpenClaim := { program := "ytbjdadekheoebaa", sum := "3678c2a6c5af1d5f524afd4002e06ef7029b37791fc908d0f36bf9121bade591", func := "latchkey/latchkeylaw19.LocksReads", spec := "locksReads", inPlace := ["slices.overlaps[int]"], unfollowed := true, recurses := true, apart := false }
def LocksReadsSaid : Prop := locksReadsRow.holds Try.pinned (OpenSpec.ofChange locksReadsSpec)

/-- ITS FALSE NEIGHBOUR: 'it returns false'. Refute it at one input. -/
def locksReadsWrong : ChangeSpec := { name := "locksReads", fn := fun _ => fun
  | [d] => { results := [.lit (.bool false)], args := [d] }
  | _ => none }
def LocksReadsWrongFalsely : Prop := locksReadsRow.holds Try.pinned (OpenSpec.ofChange locksReadsWrong)

/-- 'latchkeylaw19.LocksPlays': WHATEVER THE INPUT: true; the input reads as it did. -/
def locksPlaysSpec : ChangeSpec := { name := "locksPlays", fn := fun _ => fun
  | [d] => { results := [.lit (.bool true)], args := [d] }
  | _ => none }
def locksPlaysRow : OpenClaim := { program := "ytbjdadekheoebaa", sum := "3678c2a6c5af1d5f524afd4002e06ef7029b37791fc908d0f36bf9121bade591", func := "latchkey/latchkeylaw19.LocksPlays", spec := "locksPlays", inPlace := ["slices.overlaps[int]"], unfollowed := true, recurses := true, apart := false }
def LocksPlaysSaid : Prop := locksPlaysRow.holds Try.pinned (OpenSpec.ofChange locksPlaysSpec)

/-- ITS FALSE NEIGHBOUR: 'it returns false'. Refute it at one input. -/
def locksPlaysWrong : ChangeSpec := { name := "locksPlays", fn := fun _ => fun
  | [d] => { results := [.lit (.bool false)], args := [d] }
  | _ => none }
def LocksPlaysWrongFalsely : Prop := locksPlaysRow.holds Try.pinned (OpenSpec.ofChange locksPlaysWrong)

/- THE SECOND FORM. 'bulk': how many values and letters a reading holds, each counted each time it is reached (what is shared counts as often as it is met; a slice's spare places count too). A statement '..UptoSaid' is the law's where the arguments, and the package variables that the reading takes, are together of bulk at most 1048576: NARROWER than '..Said'. Prove '..Said' where nothing that the law and all that it calls make is longer than what came in: it says more and counts as full. Else prove '..UptoSaid'. A law counts once. -/
mutual
def uptoBulk {H : Type} : DataW H → Nat
  | .lit (.string bytes) => bytes.length + 1
  | .lit _ => 1
  | .nil => 1
  | .ptr d => uptoBulk d + 1
  | .slice elems spare => uptoBulkAll elems + uptoBulkAll spare + 1
  | .agg parts => uptoBulkAll parts + 1
  | .iface _ d => uptoBulk d + 1
  | .map entries => uptoBulkEntries entries + 1
  | .held _ => 1
def uptoBulkAll {H : Type} : List (DataW H) → Nat
  | [] => 0
  | d :: r => uptoBulk d + uptoBulkAll r
def uptoBulkEntries {H : Type} : List (Lit × DataW H) → Nat
  | [] => 0
  | x :: r => uptoBulkEntry x + uptoBulkEntries r
def uptoBulkEntry {H : Type} : Lit × DataW H → Nat
  | (.string bytes, d) => bytes.length + uptoBulk d + 1
  | (_, d) => uptoBulk d + 1
 end
def uptoSmall : (H : Type) → List (DataW H) → Bool := fun _ ds => decide (uptoBulkAll ds ≤ 1048576)
def OpenSpec.upto (s : _root_.Go.ChangeSpec) : _root_.Go.OpenSpec := { _root_.Go.OpenSpec.ofChange s with cond := some uptoSmall }

/-- 'latchkeylaw16.ProposerNone', WHERE WHAT IT READS IS OF BULK AT MOST 1048576: true; the input reads as it did. -/
def proposerNoneUptoRow : OpenClaim := { program := "ytbjdadekheoebaa", sum := "3678c2a6c5af1d5f524afd4002e06ef7029b37791fc908d0f36bf9121bade591", func := "latchkey/latchkeylaw16.ProposerNone", spec := "proposerNone", unfollowed := true, recurses := true, apart := false, narrowed := true }
def ProposerNoneUptoSaid : Prop := proposerNoneUptoRow.holds Try.pinned (OpenSpec.upto proposerNoneSpec)

/-- 'latchkeylaw05.DiskPlays', WHERE WHAT IT READS IS OF BULK AT MOST 1048576: true; the input reads as it did. -/
def diskPlaysUptoRow : OpenClaim := { program := "ytbjdadekheoebaa", sum := "3678c2a6c5af1d5f524afd4002e06ef7029b37791fc908d0f36bf9121bade591", func := "latchkey/latchkeylaw05.DiskPlays", spec := "diskPlays", unfollowed := true, recurses := true, apart := false, narrowed := true }
def DiskPlaysUptoSaid : Prop := diskPlaysUptoRow.holds Try.pinned (OpenSpec.upto diskPlaysSpec)

/-- 'latchkeylaw18.SessionGoesOn', WHERE WHAT IT READS IS OF BULK AT MOST 1048576: true; the input reads as it did. -/
def sessionGoesOnUptoRow : OpenClaim := { program := "ytbjdadekheoebaa", sum := "3678c2a6c5af1d5f524afd4002e06ef7029b37791fc908d0f36bf9121bade591", func := "latchkey/latchkeylaw18.SessionGoesOn", spec := "sessionGoesOn", unfollowed := true, recurses := true, apart := false, narrowed := true }
def SessionGoesOnUptoSaid : Prop := sessionGoesOnUptoRow.holds Try.pinned (OpenSpec.upto sessionGoesOnSpec)

/-- 'latchkeylaw18.SessionPlays', WHERE WHAT IT READS IS OF BULK AT MOST 1048576: true; the input reads as it did. -/
def sessionPlaysUptoRow : OpenClaim := { program := "ytbjdadekheoebaa", sum := "3678c2a6c5af1d5f524afd4002e06ef7029b37791fc908d0f36bf9121bade591", func := "latchkey/latchkeylaw18.SessionPlays", spec := "sessionPlays", unfollowed := true, recurses := true, apart := false, narrowed := true }
def SessionPlaysUptoSaid : Prop := sessionPlaysUptoRow.holds Try.pinned (OpenSpec.upto sessionPlaysSpec)

/-- 'latchkeylaw19.LocksTokens', WHERE WHAT IT READS IS OF BULK AT MOST 1048576: true; the input reads as it did. -/
def locksTokensUptoRow : OpenClaim := { program := "ytbjdadekheoebaa", sum := "3678c2a6c5af1d5f524afd4002e06ef7029b37791fc908d0f36bf9121bade591", func := "latchkey/latchkeylaw19.LocksTokens", spec := "locksTokens", inPlace := ["slices.overlaps[int]"], unfollowed := true, recurses := true, apart := false, narrowed := true }
def LocksTokensUptoSaid : Prop := locksTokensUptoRow.holds Try.pinned (OpenSpec.upto locksTokensSpec)

/-- 'latchkeylaw19.LocksAlone', WHERE WHAT IT READS IS OF BULK AT MOST 1048576: true; the input reads as it did. -/
def locksAloneUptoRow : OpenClaim := { program := "ytbjdadekheoebaa", sum := "3678c2a6c5af1d5f524afd4002e06ef7029b37791fc908d0f36bf9121bade591", func := "latchkey/latchkeylaw19.LocksAlone", spec := "locksAlone", inPlace := ["slices.overlaps[int]"], unfollowed := true, recurses := true, apart := false, narrowed := true }
def LocksAloneUptoSaid : Prop := locksAloneUptoRow.holds Try.pinned (OpenSpec.upto locksAloneSpec)

/-- 'latchkeylaw20.CountersPlays', WHERE WHAT IT READS IS OF BULK AT MOST 1048576: true; the input reads as it did. -/
def countersPlaysUptoRow : OpenClaim := { program := "ytbjdadekheoebaa", sum := "3678c2a6c5af1d5f524afd4002e06ef7029b37791fc908d0f36bf9121bade591", func := "latchkey/latchkeylaw20.CountersPlays", spec := "countersPlays", unfollowed := true, recurses := true, apart := false, narrowed := true }
def CountersPlaysUptoSaid : Prop := countersPlaysUptoRow.holds Try.pinned (OpenSpec.upto countersPlaysSpec)

/-- 'latchkeylaw20.CountersReads', WHERE WHAT IT READS IS OF BULK AT MOST 1048576: true; the input reads as it did. -/
def countersReadsUptoRow : OpenClaim := { program := "ytbjdadekheoebaa", sum := "3678c2a6c5af1d5f524afd4002e06ef7029b37791fc908d0f36bf9121bade591", func := "latchkey/latchkeylaw20.CountersReads", spec := "countersReads", unfollowed := true, recurses := true, apart := false, narrowed := true }
def CountersReadsUptoSaid : Prop := countersReadsUptoRow.holds Try.pinned (OpenSpec.upto countersReadsSpec)

/-- 'latchkeylaw19.LocksReads', WHERE WHAT IT READS IS OF BULK AT MOST 1048576: true; the input reads as it did. -/
def locksReadsUptoRow : OpenClaim := { program := "ytbjdadekheoebaa", sum := "3678c2a6c5af1d5f524afd4002e06ef7029b37791fc908d0f36bf9121bade591", func := "latchkey/latchkeylaw19.LocksReads", spec := "locksReads", inPlace := ["slices.overlaps[int]"], unfollowed := true, recurses := true, apart := false, narrowed := true }
def LocksReadsUptoSaid : Prop := locksReadsUptoRow.holds Try.pinned (OpenSpec.upto locksReadsSpec)

/-- 'latchkeylaw19.LocksPlays', WHERE WHAT IT READS IS OF BULK AT MOST 1048576: true; the input reads as it did. -/
def locksPlaysUptoRow : OpenClaim := { program := "ytbjdadekheoebaa", sum := "3678c2a6c5af1d5f524afd4002e06ef7029b37791fc908d0f36bf9121bade591", func := "latchkey/latchkeylaw19.LocksPlays", spec := "locksPlays", inPlace := ["slices.overlaps[int]"], unfollowed := true, recurses := true, apart := false, narrowed := true }
def LocksPlaysUptoSaid : Prop := locksPlaysUptoRow.holds Try.pinned (OpenSpec.upto locksPlaysSpec)

end Rows
end Go.Proofs.Ytbjdadekheoebaa
