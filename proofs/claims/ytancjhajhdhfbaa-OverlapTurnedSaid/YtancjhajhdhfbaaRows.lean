/-
  No cell of these rows narrows 'for every input' (looked for: loops, veiled, ifaces, maps, wideKeys, modest, calm, conditions, laid).
  DERIVED. THE GIVEN ROWS OF THIS SEAT. 6 by the template 'for every input the law returns true; each argument reads behind the call as it read before'; 0 by the template 'total and deterministic' (their statements: YtancjhajhdhfbaaTotals.lean).
  GIVEN WITH THE SEED: the statements are not yours to turn. If you find one false, say at which input.
  Laid BY PROGRAM, IN A SANDBOX (cutbox-rows.mjs): the forced cells as the released guide's own fill.sh prints them over the translation f252e486ca55156f… (all of the seat's roots in one cut). By AI agents, Wed Nov 11 2026. No macro, syntax, notation, axiom, sorry.
-/
import Derived.Test.YtancjhajhdhfbaaChecked
import GoSem.Claim
import GoSem.ClaimJoined
import GoSem.ClaimMapViews
import Derived.JoinedTies
import Derived.KernelRfl
namespace Go.Proofs.Ytancjhajhdhfbaa
/- THE CELL 'sum', in the pinned program and in every row, IS THE sha256 OF THE DUMP (.gsa) THAT YtancjhajhdhfbaaProg.lean LOADS. Nothing in Lean hashes anything: it is a label: what it is worth is what the hold of that sum in a sandbox is worth. -/
noncomputable def Try.pinned : Pinned := { name := "ytancjhajhdhfbaa", sum := "f252e486ca55156fe8eece41a9e81a640d7fbf5cf5c5783d4059a970bf201a71", checked := Try.checked }
namespace Rows
def none {H : Type} : Left H := { results := [], args := [] }

/-- 'quadratlaw17.OverlapPairs': WHATEVER THE INPUT: true; the input reads as it did. -/
def overlapPairsSpec : ChangeSpec := { name := "overlapPairs", fn := fun _ => fun
  | [d1, d2, d3] => { results := [.lit (.bool true)], args := [d1, d2, d3] }
  | _ => none }
def overlapPairsRow : OpenClaim := { program := "ytancjhajhdhfbaa", sum := "f252e486ca55156fe8eece41a9e81a640d7fbf5cf5c5783d4059a970bf201a71", func := "quadrat/quadratlaw17.OverlapPairs", spec := "overlapPairs", unfollowed := true, recurses := true, apart := false }
def OverlapPairsSaid : Prop := overlapPairsRow.holds Try.pinned (OpenSpec.ofChange overlapPairsSpec)

/-- ITS FALSE NEIGHBOUR: 'it returns false'. Refute it at one input. -/
def overlapPairsWrong : ChangeSpec := { name := "overlapPairs", fn := fun _ => fun
  | [d1, d2, d3] => { results := [.lit (.bool false)], args := [d1, d2, d3] }
  | _ => none }
def OverlapPairsWrongFalsely : Prop := overlapPairsRow.holds Try.pinned (OpenSpec.ofChange overlapPairsWrong)

/-- 'quadratlaw17.OverlapTurned': WHATEVER THE INPUT: true; the input reads as it did. -/
def overlapTurnedSpec : ChangeSpec := { name := "overlapTurned", fn := fun _ => fun
  | [d1, d2, d3] => { results := [.lit (.bool true)], args := [d1, d2, d3] }
  | _ => none }
def overlapTurnedRow : OpenClaim := { program := "ytancjhajhdhfbaa", sum := "f252e486ca55156fe8eece41a9e81a640d7fbf5cf5c5783d4059a970bf201a71", func := "quadrat/quadratlaw17.OverlapTurned", spec := "overlapTurned", unfollowed := true, recurses := true, apart := false }
def OverlapTurnedSaid : Prop := overlapTurnedRow.holds Try.pinned (OpenSpec.ofChange overlapTurnedSpec)

/-- ITS FALSE NEIGHBOUR: 'it returns false'. Refute it at one input. -/
def overlapTurnedWrong : ChangeSpec := { name := "overlapTurned", fn := fun _ => fun
  | [d1, d2, d3] => { results := [.lit (.bool false)], args := [d1, d2, d3] }
  | _ => none }
def OverlapTurnedWrongFalsely : Prop := overlapTurnedRow.holds Try.pinned (OpenSpec.ofChange overlapTurnedWrong)

/-- 'quadratlaw17.OverlapWays': WHATEVER THE INPUT: true; the input reads as it did. -/
def overlapWaysSpec : ChangeSpec := { name := "overlapWays", fn := fun _ => fun
  | [d1, d2, d3] => { results := [.lit (.bool true)], args := [d1, d2, d3] }
  | _ => none }
def overlapWaysRow : OpenClaim := { program := "ytancjhajhdhfbaa", sum := "f252e486ca55156fe8eece41a9e81a640d7fbf5cf5c5783d4059a970bf201a71", func := "quadrat/quadratlaw17.OverlapWays", spec := "overlapWays", unfollowed := true, recurses := true, apart := false }
def OverlapWaysSaid : Prop := overlapWaysRow.holds Try.pinned (OpenSpec.ofChange overlapWaysSpec)

/-- ITS FALSE NEIGHBOUR: 'it returns false'. Refute it at one input. -/
def overlapWaysWrong : ChangeSpec := { name := "overlapWays", fn := fun _ => fun
  | [d1, d2, d3] => { results := [.lit (.bool false)], args := [d1, d2, d3] }
  | _ => none }
def OverlapWaysWrongFalsely : Prop := overlapWaysRow.holds Try.pinned (OpenSpec.ofChange overlapWaysWrong)

/-- 'quadratlaw17.OverlapPlaces': WHATEVER THE INPUT: true; the input reads as it did. -/
def overlapPlacesSpec : ChangeSpec := { name := "overlapPlaces", fn := fun _ => fun
  | [d1, d2, d3] => { results := [.lit (.bool true)], args := [d1, d2, d3] }
  | _ => none }
def overlapPlacesRow : OpenClaim := { program := "ytancjhajhdhfbaa", sum := "f252e486ca55156fe8eece41a9e81a640d7fbf5cf5c5783d4059a970bf201a71", func := "quadrat/quadratlaw17.OverlapPlaces", spec := "overlapPlaces", unfollowed := true, recurses := true, apart := false }
def OverlapPlacesSaid : Prop := overlapPlacesRow.holds Try.pinned (OpenSpec.ofChange overlapPlacesSpec)

/-- ITS FALSE NEIGHBOUR: 'it returns false'. Refute it at one input. -/
def overlapPlacesWrong : ChangeSpec := { name := "overlapPlaces", fn := fun _ => fun
  | [d1, d2, d3] => { results := [.lit (.bool false)], args := [d1, d2, d3] }
  | _ => none }
def OverlapPlacesWrongFalsely : Prop := overlapPlacesRow.holds Try.pinned (OpenSpec.ofChange overlapPlacesWrong)

/-- 'quadratlaw17.OverlapTests': WHATEVER THE INPUT: true; the input reads as it did. -/
def overlapTestsSpec : ChangeSpec := { name := "overlapTests", fn := fun _ => fun
  | [d1, d2, d3] => { results := [.lit (.bool true)], args := [d1, d2, d3] }
  | _ => none }
def overlapTestsRow : OpenClaim := { program := "ytancjhajhdhfbaa", sum := "f252e486ca55156fe8eece41a9e81a640d7fbf5cf5c5783d4059a970bf201a71", func := "quadrat/quadratlaw17.OverlapTests", spec := "overlapTests", unfollowed := true, recurses := true, apart := false }
def OverlapTestsSaid : Prop := overlapTestsRow.holds Try.pinned (OpenSpec.ofChange overlapTestsSpec)

/-- ITS FALSE NEIGHBOUR: 'it returns false'. Refute it at one input. -/
def overlapTestsWrong : ChangeSpec := { name := "overlapTests", fn := fun _ => fun
  | [d1, d2, d3] => { results := [.lit (.bool false)], args := [d1, d2, d3] }
  | _ => none }
def OverlapTestsWrongFalsely : Prop := overlapTestsRow.holds Try.pinned (OpenSpec.ofChange overlapTestsWrong)

/-- 'quadratlaw17.OverlapSafe': WHATEVER THE INPUT: true; the input reads as it did. -/
def overlapSafeSpec : ChangeSpec := { name := "overlapSafe", fn := fun _ => fun
  | [d1, d2, d3] => { results := [.lit (.bool true)], args := [d1, d2, d3] }
  | _ => none }
def overlapSafeRow : OpenClaim := { program := "ytancjhajhdhfbaa", sum := "f252e486ca55156fe8eece41a9e81a640d7fbf5cf5c5783d4059a970bf201a71", func := "quadrat/quadratlaw17.OverlapSafe", spec := "overlapSafe", unfollowed := true, recurses := true, apart := false }
def OverlapSafeSaid : Prop := overlapSafeRow.holds Try.pinned (OpenSpec.ofChange overlapSafeSpec)

/-- ITS FALSE NEIGHBOUR: 'it returns false'. Refute it at one input. -/
def overlapSafeWrong : ChangeSpec := { name := "overlapSafe", fn := fun _ => fun
  | [d1, d2, d3] => { results := [.lit (.bool false)], args := [d1, d2, d3] }
  | _ => none }
def OverlapSafeWrongFalsely : Prop := overlapSafeRow.holds Try.pinned (OpenSpec.ofChange overlapSafeWrong)

/- THE SECOND FORM. 'bulk': how many values and letters a reading holds, each counted each time it is reached (what is shared counts as often as it is met; a slice's spare places count too). A statement '..UptoSaid' is the law's where the arguments, and the package variables that the reading takes, are together of bulk at most 1048576: NARROWER than '..Said'. Prove '..Said' where nothing that the law and all that it calls make is longer than what came in: it says more and counts as full. Else prove '..UptoSaid'. A law counts once. -/
mutual
def uptoBulk {H : Type} : DataW H → Nat
  | .lit (.string bytes) => bytes.length + 1
  | .lit _ => 1
  | .nil => 1
  | .ptr d => uptoBulk d + 1
  | .slice elems spare => uptoBulkAll elems + uptoBulkAll spare + 1
  | .agg parts => uptoBulkAll parts + 1
  | .iface _ d => uptoBulk d + 1
  | .map entries => uptoBulkEntries entries + 1
  | .held _ => 1
def uptoBulkAll {H : Type} : List (DataW H) → Nat
  | [] => 0
  | d :: r => uptoBulk d + uptoBulkAll r
def uptoBulkEntries {H : Type} : List (Lit × DataW H) → Nat
  | [] => 0
  | x :: r => uptoBulkEntry x + uptoBulkEntries r
def uptoBulkEntry {H : Type} : Lit × DataW H → Nat
  | (.string bytes, d) => bytes.length + uptoBulk d + 1
  | (_, d) => uptoBulk d + 1
 end
def uptoSmall : (H : Type) → List (DataW H) → Bool := fun _ ds => decide (uptoBulkAll ds ≤ 1048576)
def OpenSpec.upto (s : _root_.Go.ChangeSpec) : _root_.Go.OpenSpec := { _root_.Go.OpenSpec.ofChange s with cond := some uptoSmall }

/-- 'quadratlaw17.OverlapPairs', WHERE WHAT IT READS IS OF BULK AT MOST 1048576: true; the input reads as it did. -/
def overlapPairsUptoRow : OpenClaim := { program := "ytancjhajhdhfbaa", sum := "f252e486ca55156fe8eece41a9e81a640d7fbf5cf5c5783d4059a970bf201a71", func := "quadrat/quadratlaw17.OverlapPairs", spec := "overlapPairs", unfollowed := true, recurses := true, apart := false, narrowed := true }
def OverlapPairsUptoSaid : Prop := overlapPairsUptoRow.holds Try.pinned (OpenSpec.upto overlapPairsSpec)

/-- 'quadratlaw17.OverlapTurned', WHERE WHAT IT READS IS OF BULK AT MOST 1048576: true; the input reads as it did. -/
def overlapTurnedUptoRow : OpenClaim := { program := "ytancjhajhdhfbaa", sum := "f252e486ca55156fe8eece41a9e81a640d7fbf5cf5c5783d4059a970bf201a71", func := "quadrat/quadratlaw17.OverlapTurned", spec := "overlapTurned", unfollowed := true, recurses := true, apart := false, narrowed := true }
def OverlapTurnedUptoSaid : Prop := overlapTurnedUptoRow.holds Try.pinned (OpenSpec.upto overlapTurnedSpec)

/-- 'quadratlaw17.OverlapWays', WHERE WHAT IT READS IS OF BULK AT MOST 1048576: true; the input reads as it did. -/
def overlapWaysUptoRow : OpenClaim := { program := "ytancjhajhdhfbaa", sum := "f252e486ca55156fe8eece41a9e81a640d7fbf5cf5c5783d4059a970bf201a71", func := "quadrat/quadratlaw17.OverlapWays", spec := "overlapWays", unfollowed := true, recurses := true, apart := false, narrowed := true }
def OverlapWaysUptoSaid : Prop := overlapWaysUptoRow.holds Try.pinned (OpenSpec.upto overlapWaysSpec)

/-- 'quadratlaw17.OverlapPlaces', WHERE WHAT IT READS IS OF BULK AT MOST 1048576: true; the input reads as it did. -/
def overlapPlacesUptoRow : OpenClaim := { program := "ytancjhajhdhfbaa", sum := "f252e486ca55156fe8eece41a9e81a640d7fbf5cf5c5783d4059a970bf201a71", func := "quadrat/quadratlaw17.OverlapPlaces", spec := "overlapPlaces", unfollowed := true, recurses := true, apart := false, narrowed := true }
def OverlapPlacesUptoSaid : Prop := overlapPlacesUptoRow.holds Try.pinned (OpenSpec.upto overlapPlacesSpec)

/-- 'quadratlaw17.OverlapTests', WHERE WHAT IT READS IS OF BULK AT MOST 1048576: true; the input reads as it did. -/
def overlapTestsUptoRow : OpenClaim := { program := "ytancjhajhdhfbaa", sum := "f252e486ca55156fe8eece41a9e81a640d7fbf5cf5c5783d4059a970bf201a71", func := "quadrat/quadratlaw17.OverlapTests", spec := "overlapTests", unfollowed := true, recurses := true, apart := false, narrowed := true }
def OverlapTestsUptoSaid : Prop := overlapTestsUptoRow.holds Try.pinned (OpenSpec.upto overlapTestsSpec)

/-- 'quadratlaw17.OverlapSafe', WHERE WHAT IT READS IS OF BULK AT MOST 1048576: true; the input reads as it did. -/
def overlapSafeUptoRow : OpenClaim := { program := "ytancjhajhdhfbaa", sum := "f252e486ca55156fe8eece41a9e81a640d7fbf5cf5c5783d4059a970bf201a71", func := "quadrat/quadratlaw17.OverlapSafe", spec := "overlapSafe", unfollowed := true, recurses := true, apart := false, narrowed := true }
def OverlapSafeUptoSaid : Prop := overlapSafeUptoRow.holds Try.pinned (OpenSpec.upto overlapSafeSpec)

end Rows
end Go.Proofs.Ytancjhajhdhfbaa
