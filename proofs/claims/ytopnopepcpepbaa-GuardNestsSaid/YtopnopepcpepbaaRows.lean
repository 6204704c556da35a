/-
  No cell of these rows narrows 'for every input' (looked for: loops, veiled, ifaces, maps, wideKeys, modest, calm, conditions, laid).
  DERIVED. THE GIVEN ROWS OF THIS SEAT. 6 by the template 'for every input the law returns true; each argument reads behind the call as it read before'; 0 by the template 'total and deterministic' (their statements: YtopnopepcpepbaaTotals.lean).
  GIVEN WITH THE SEED: the statements are not yours to turn. If you find one false, say at which input.
  Laid BY PROGRAM, IN A SANDBOX (cutbox-rows.mjs): the forced cells as the released guide's own fill.sh prints them over the translation 455155a51ae19313… (all of the seat's roots in one cut). By AI agents, Wed Nov 11 2026. No macro, syntax, notation, axiom, sorry.
-/
import Derived.Test.YtopnopepcpepbaaChecked
import GoSem.Claim
import GoSem.ClaimJoined
import GoSem.ClaimMapViews
import Derived.JoinedTies
import Derived.KernelRfl
namespace Go.Proofs.Ytopnopepcpepbaa
/- THE CELL 'sum', in the pinned program and in every row, IS THE sha256 OF THE DUMP (.gsa) THAT YtopnopepcpepbaaProg.lean LOADS. Nothing in Lean hashes anything: it is a label: what it is worth is what the hold of that sum in a sandbox is worth. -/
noncomputable def Try.pinned : Pinned := { name := "ytopnopepcpepbaa", sum := "455155a51ae19313f7786817905420f998c5cd802e53f34e1157e40fcb7236bd", checked := Try.checked }
namespace Rows
def none {H : Type} : Left H := { results := [], args := [] }

/-- 'quadratlaw22.GuardAsks': WHATEVER THE INPUT: true; the input reads as it did. -/
def guardAsksSpec : ChangeSpec := { name := "guardAsks", fn := fun _ => fun
  | [d1, d2] => { results := [.lit (.bool true)], args := [d1, d2] }
  | _ => none }
def guardAsksRow : OpenClaim := { program := "ytopnopepcpepbaa", sum := "455155a51ae19313f7786817905420f998c5cd802e53f34e1157e40fcb7236bd", func := "quadrat/quadratlaw22.GuardAsks", spec := "guardAsks", unfollowed := true, recurses := true, apart := false }
def GuardAsksSaid : Prop := guardAsksRow.holds Try.pinned (OpenSpec.ofChange guardAsksSpec)

/-- ITS FALSE NEIGHBOUR: 'it returns false'. Refute it at one input. -/
def guardAsksWrong : ChangeSpec := { name := "guardAsks", fn := fun _ => fun
  | [d1, d2] => { results := [.lit (.bool false)], args := [d1, d2] }
  | _ => none }
def GuardAsksWrongFalsely : Prop := guardAsksRow.holds Try.pinned (OpenSpec.ofChange guardAsksWrong)

/-- 'quadratlaw22.GuardParts': WHATEVER THE INPUT: true; the input reads as it did. -/
def guardPartsSpec : ChangeSpec := { name := "guardParts", fn := fun _ => fun
  | [d1, d2] => { results := [.lit (.bool true)], args := [d1, d2] }
  | _ => none }
def guardPartsRow : OpenClaim := { program := "ytopnopepcpepbaa", sum := "455155a51ae19313f7786817905420f998c5cd802e53f34e1157e40fcb7236bd", func := "quadrat/quadratlaw22.GuardParts", spec := "guardParts", unfollowed := true, recurses := true, apart := false }
def GuardPartsSaid : Prop := guardPartsRow.holds Try.pinned (OpenSpec.ofChange guardPartsSpec)

/-- ITS FALSE NEIGHBOUR: 'it returns false'. Refute it at one input. -/
def guardPartsWrong : ChangeSpec := { name := "guardParts", fn := fun _ => fun
  | [d1, d2] => { results := [.lit (.bool false)], args := [d1, d2] }
  | _ => none }
def GuardPartsWrongFalsely : Prop := guardPartsRow.holds Try.pinned (OpenSpec.ofChange guardPartsWrong)

/-- 'quadratlaw22.GuardSplits': WHATEVER THE INPUT: true; the input reads as it did. -/
def guardSplitsSpec : ChangeSpec := { name := "guardSplits", fn := fun _ => fun
  | [d1, d2, d3] => { results := [.lit (.bool true)], args := [d1, d2, d3] }
  | _ => none }
def guardSplitsRow : OpenClaim := { program := "ytopnopepcpepbaa", sum := "455155a51ae19313f7786817905420f998c5cd802e53f34e1157e40fcb7236bd", func := "quadrat/quadratlaw22.GuardSplits", spec := "guardSplits", unfollowed := true, recurses := true, apart := false }
def GuardSplitsSaid : Prop := guardSplitsRow.holds Try.pinned (OpenSpec.ofChange guardSplitsSpec)

/-- ITS FALSE NEIGHBOUR: 'it returns false'. Refute it at one input. -/
def guardSplitsWrong : ChangeSpec := { name := "guardSplits", fn := fun _ => fun
  | [d1, d2, d3] => { results := [.lit (.bool false)], args := [d1, d2, d3] }
  | _ => none }
def GuardSplitsWrongFalsely : Prop := guardSplitsRow.holds Try.pinned (OpenSpec.ofChange guardSplitsWrong)

/-- 'quadratlaw22.GuardTurns': WHATEVER THE INPUT: true; the input reads as it did. -/
def guardTurnsSpec : ChangeSpec := { name := "guardTurns", fn := fun _ => fun
  | [d1, d2] => { results := [.lit (.bool true)], args := [d1, d2] }
  | _ => none }
def guardTurnsRow : OpenClaim := { program := "ytopnopepcpepbaa", sum := "455155a51ae19313f7786817905420f998c5cd802e53f34e1157e40fcb7236bd", func := "quadrat/quadratlaw22.GuardTurns", spec := "guardTurns", unfollowed := true, recurses := true, apart := false }
def GuardTurnsSaid : Prop := guardTurnsRow.holds Try.pinned (OpenSpec.ofChange guardTurnsSpec)

/-- ITS FALSE NEIGHBOUR: 'it returns false'. Refute it at one input. -/
def guardTurnsWrong : ChangeSpec := { name := "guardTurns", fn := fun _ => fun
  | [d1, d2] => { results := [.lit (.bool false)], args := [d1, d2] }
  | _ => none }
def GuardTurnsWrongFalsely : Prop := guardTurnsRow.holds Try.pinned (OpenSpec.ofChange guardTurnsWrong)

/-- 'quadratlaw22.GuardOnes': WHATEVER THE INPUT: true; the input reads as it did. -/
def guardOnesSpec : ChangeSpec := { name := "guardOnes", fn := fun _ => fun
  | [d1, d2] => { results := [.lit (.bool true)], args := [d1, d2] }
  | _ => none }
def guardOnesRow : OpenClaim := { program := "ytopnopepcpepbaa", sum := "455155a51ae19313f7786817905420f998c5cd802e53f34e1157e40fcb7236bd", func := "quadrat/quadratlaw22.GuardOnes", spec := "guardOnes", unfollowed := true, recurses := true, apart := false }
def GuardOnesSaid : Prop := guardOnesRow.holds Try.pinned (OpenSpec.ofChange guardOnesSpec)

/-- ITS FALSE NEIGHBOUR: 'it returns false'. Refute it at one input. -/
def guardOnesWrong : ChangeSpec := { name := "guardOnes", fn := fun _ => fun
  | [d1, d2] => { results := [.lit (.bool false)], args := [d1, d2] }
  | _ => none }
def GuardOnesWrongFalsely : Prop := guardOnesRow.holds Try.pinned (OpenSpec.ofChange guardOnesWrong)

/-- 'quadratlaw22.GuardNests': WHATEVER THE INPUT: true; the input reads as it did. -/
def guardNestsSpec : ChangeSpec := { name := "guardNests", fn := fun _ => fun
  | [d1, d2] => { results := [.lit (.bool true)], args := [d1, d2] }
  | _ => none }
def guardNestsRow : OpenClaim := { program := "ytopnopepcpepbaa", sum := "455155a51ae19313f7786817905420f998c5cd802e53f34e1157e40fcb7236bd", func := "quadrat/quadratlaw22.GuardNests", spec := "guardNests", unfollowed := true, recurses := true, apart := false }
def GuardNestsSaid : Prop := guardNestsRow.holds Try.pinned (OpenSpec.ofChange guardNestsSpec)

/-- ITS FALSE NEIGHBOUR: 'it returns false'. Refute it at one input. -/
def guardNestsWrong : ChangeSpec := { name := "guardNests", fn := fun _ => fun
  | [d1, d2] => { results := [.lit (.bool false)], args := [d1, d2] }
  | _ => none }
def GuardNestsWrongFalsely : Prop := guardNestsRow.holds Try.pinned (OpenSpec.ofChange guardNestsWrong)

/- THE SECOND FORM. 'bulk': how many values and letters a reading holds, each counted each time it is reached (what is shared counts as often as it is met; a slice's spare places count too). A statement '..UptoSaid' is the law's where the arguments, and the package variables that the reading takes, are together of bulk at most 1048576: NARROWER than '..Said'. Prove '..Said' where nothing that the law and all that it calls make is longer than what came in: it says more and counts as full. Else prove '..UptoSaid'. A law counts once. -/
mutual
def uptoBulk {H : Type} : DataW H → Nat
  | .lit (.string bytes) => bytes.length + 1
  | .lit _ => 1
  | .nil => 1
  | .ptr d => uptoBulk d + 1
  | .slice elems spare => uptoBulkAll elems + uptoBulkAll spare + 1
  | .agg parts => uptoBulkAll parts + 1
  | .iface _ d => uptoBulk d + 1
  | .map entries => uptoBulkEntries entries + 1
  | .held _ => 1
def uptoBulkAll {H : Type} : List (DataW H) → Nat
  | [] => 0
  | d :: r => uptoBulk d + uptoBulkAll r
def uptoBulkEntries {H : Type} : List (Lit × DataW H) → Nat
  | [] => 0
  | x :: r => uptoBulkEntry x + uptoBulkEntries r
def uptoBulkEntry {H : Type} : Lit × DataW H → Nat
  | (.string bytes, d) => bytes.length + uptoBulk d + 1
  | (_, d) => uptoBulk d + 1
 end
def uptoSmall : (H : Type) → List (DataW H) → Bool := fun _ ds => decide (uptoBulkAll ds ≤ 1048576)
def OpenSpec.upto (s : _root_.Go.ChangeSpec) : _root_.Go.OpenSpec := { _root_.Go.OpenSpec.ofChange s with cond := some uptoSmall }

/-- 'quadratlaw22.GuardAsks', WHERE WHAT IT READS IS OF BULK AT MOST 1048576: true; the input reads as it did. -/
def guardAsksUptoRow : OpenClaim := { program := "ytopnopepcpepbaa", sum := "455155a51ae19313f7786817905420f998c5cd802e53f34e1157e40fcb7236bd", func := "quadrat/quadratlaw22.GuardAsks", spec := "guardAsks", unfollowed := true, recurses := true, apart := false, narrowed := true }
def GuardAsksUptoSaid : Prop := guardAsksUptoRow.holds Try.pinned (OpenSpec.upto guardAsksSpec)

/-- 'quadratlaw22.GuardParts', WHERE WHAT IT READS IS OF BULK AT MOST 1048576: true; the input reads as it did. -/
def guardPartsUptoRow : OpenClaim := { program := "ytopnopepcpepbaa", sum := "455155a51ae19313f7786817905420f998c5cd802e53f34e1157e40fcb7236bd", func := "quadrat/quadratlaw22.GuardParts", spec := "guardParts", unfollowed := true, recurses := true, apart := false, narrowed := true }
def GuardPartsUptoSaid : Prop := guardPartsUptoRow.holds Try.pinned (OpenSpec.upto guardPartsSpec)

/-- 'quadratlaw22.GuardSplits', WHERE WHAT IT READS IS OF BULK AT MOST 1048576: true; the input reads as it did. -/
def guardSplitsUptoRow : OpenClaim := { program := "ytopnopepcpepbaa", sum := "455155a51ae19313f7786817905420f998c5cd802e53f34e1157e40fcb7236bd", func := "quadrat/quadratlaw22.GuardSplits", spec := "guardSplits", unfollowed := true, recurses := true, apart := false, narrowed := true }
def GuardSplitsUptoSaid : Prop := guardSplitsUptoRow.holds Try.pinned (OpenSpec.upto guardSplitsSpec)

/-- 'quadratlaw22.GuardTurns', WHERE WHAT IT READS IS OF BULK AT MOST 1048576: true; the input reads as it did. -/
def guardTurnsUptoRow : OpenClaim := { program := "ytopnopepcpepbaa", sum := "455155a51ae19313f7786817905420f998c5cd802e53f34e1157e40fcb7236bd", func := "quadrat/quadratlaw22.GuardTurns", spec := "guardTurns", unfollowed := true, recurses := true, apart := false, narrowed := true }
def GuardTurnsUptoSaid : Prop := guardTurnsUptoRow.holds Try.pinned (OpenSpec.upto guardTurnsSpec)

/-- 'quadratlaw22.GuardOnes', WHERE WHAT IT READS IS OF BULK AT MOST 1048576: true; the input reads as it did. -/
def guardOnesUptoRow : OpenClaim := { program := "ytopnopepcpepbaa", sum := "455155a51ae19313f7786817905420f998c5cd802e53f34e1157e40fcb7236bd", func := "quadrat/quadratlaw22.GuardOnes", spec := "guardOnes", unfollowed := true, recurses := true, apart := false, narrowed := true }
def GuardOnesUptoSaid : Prop := guardOnesUptoRow.holds Try.pinned (OpenSpec.upto guardOnesSpec)

/-- 'quadratlaw22.GuardNests', WHERE WHAT IT READS IS OF BULK AT MOST 1048576: true; the input reads as it did. -/
def guardNestsUptoRow : OpenClaim := { program := "ytopnopepcpepbaa", sum := "455155a51ae19313f7786817905420f998c5cd802e53f34e1157e40fcb7236bd", func := "quadrat/quadratlaw22.GuardNests", spec := "guardNests", unfollowed := true, recurses := true, apart := false, narrowed := true }
def GuardNestsUptoSaid : Prop := guardNestsUptoRow.holds Try.pinned (OpenSpec.upto guardNestsSpec)

end Rows
end Go.Proofs.Ytopnopepcpepbaa
