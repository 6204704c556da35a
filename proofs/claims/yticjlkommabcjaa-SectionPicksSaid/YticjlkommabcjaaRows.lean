/-
  No cell of these rows narrows 'for every input' (looked for: loops, veiled, ifaces, maps, wideKeys, modest, calm, conditions, laid).
  DERIVED. THE GIVEN ROWS OF THIS SEAT. 9 by the template 'for every input the law returns true; each argument reads behind the call as it read before'; 0 by the template 'total and deterministic' (their statements: YticjlkommabcjaaTotals.lean).
  GIVEN WITH THE SEED: the statements are not yours to turn. If you find one false, say at which input.
  Laid BY PROGRAM, IN A SANDBOX (cutbox-rows.mjs): the forced cells as the released guide's own fill.sh prints them over the translation f8972ea717a2bd1f… (all of the seat's roots in one cut). By AI agents, Wed Nov 11 2026. No macro, syntax, notation, axiom, sorry.
-/
import Derived.Test.YticjlkommabcjaaChecked
import GoSem.Claim
import GoSem.ClaimJoined
import GoSem.ClaimMapViews
import Derived.JoinedTies
import Derived.KernelRfl
namespace Go.Proofs.Yticjlkommabcjaa
/- THE CELL 'sum', in the pinned program and in every row, IS THE sha256 OF THE DUMP (.gsa) THAT YticjlkommabcjaaProg.lean LOADS. Nothing in Lean hashes anything: it is a label: what it is worth is what the hold of that sum in a sandbox is worth. -/
noncomputable def Try.pinned : Pinned := { name := "yticjlkommabcjaa", sum := "f8972ea717a2bd1f8940a7df06d528f72c0a674d7d37a76e46203cd2a165e495", checked := Try.checked }
namespace Rows
def none {H : Type} : Left H := { results := [], args := [] }

/-- 'quadratlaw06.SectionCounts': WHATEVER THE INPUT: true; the input reads as it did. -/
def sectionCountsSpec : ChangeSpec := { name := "sectionCounts", fn := fun _ => fun
  | [d] => { results := [.lit (.bool true)], args := [d] }
  | _ => none }
def sectionCountsRow : OpenClaim := { program := "yticjlkommabcjaa", sum := "f8972ea717a2bd1f8940a7df06d528f72c0a674d7d37a76e46203cd2a165e495", func := "quadrat/quadratlaw06.SectionCounts", spec := "sectionCounts", unfollowed := true, recurses := true, apart := false }
def SectionCountsSaid : Prop := sectionCountsRow.holds Try.pinned (OpenSpec.ofChange sectionCountsSpec)

/-- ITS FALSE NEIGHBOUR: 'it returns false'. Refute it at one input. -/
def sectionCountsWrong : ChangeSpec := { name := "sectionCounts", fn := fun _ => fun
  | [d] => { results := [.lit (.bool false)], args := [d] }
  | _ => none }
def SectionCountsWrongFalsely : Prop := sectionCountsRow.holds Try.pinned (OpenSpec.ofChange sectionCountsWrong)

/-- 'quadratlaw06.SectionCuts': WHATEVER THE INPUT: true; the input reads as it did. -/
def sectionCutsSpec : ChangeSpec := { name := "sectionCuts", fn := fun _ => fun
  | [d1, d2] => { results := [.lit (.bool true)], args := [d1, d2] }
  | _ => none }
def sectionCutsRow : OpenClaim := { program := "yticjlkommabcjaa", sum := "f8972ea717a2bd1f8940a7df06d528f72c0a674d7d37a76e46203cd2a165e495", func := "quadrat/quadratlaw06.SectionCuts", spec := "sectionCuts", unfollowed := true, recurses := true, apart := false }
def SectionCutsSaid : Prop := sectionCutsRow.holds Try.pinned (OpenSpec.ofChange sectionCutsSpec)

/-- ITS FALSE NEIGHBOUR: 'it returns false'. Refute it at one input. -/
def sectionCutsWrong : ChangeSpec := { name := "sectionCuts", fn := fun _ => fun
  | [d1, d2] => { results := [.lit (.bool false)], args := [d1, d2] }
  | _ => none }
def SectionCutsWrongFalsely : Prop := sectionCutsRow.holds Try.pinned (OpenSpec.ofChange sectionCutsWrong)

/-- 'quadratlaw06.SectionAts': WHATEVER THE INPUT: true; the input reads as it did. -/
def sectionAtsSpec : ChangeSpec := { name := "sectionAts", fn := fun _ => fun
  | [d1, d2] => { results := [.lit (.bool true)], args := [d1, d2] }
  | _ => none }
def sectionAtsRow : OpenClaim := { program := "yticjlkommabcjaa", sum := "f8972ea717a2bd1f8940a7df06d528f72c0a674d7d37a76e46203cd2a165e495", func := "quadrat/quadratlaw06.SectionAts", spec := "sectionAts", unfollowed := true, recurses := true, apart := false }
def SectionAtsSaid : Prop := sectionAtsRow.holds Try.pinned (OpenSpec.ofChange sectionAtsSpec)

/-- ITS FALSE NEIGHBOUR: 'it returns false'. Refute it at one input. -/
def sectionAtsWrong : ChangeSpec := { name := "sectionAts", fn := fun _ => fun
  | [d1, d2] => { results := [.lit (.bool false)], args := [d1, d2] }
  | _ => none }
def SectionAtsWrongFalsely : Prop := sectionAtsRow.holds Try.pinned (OpenSpec.ofChange sectionAtsWrong)

/-- 'quadratlaw06.SectionNexts': WHATEVER THE INPUT: true; the input reads as it did. -/
def sectionNextsSpec : ChangeSpec := { name := "sectionNexts", fn := fun _ => fun
  | [d1, d2] => { results := [.lit (.bool true)], args := [d1, d2] }
  | _ => none }
def sectionNextsRow : OpenClaim := { program := "yticjlkommabcjaa", sum := "f8972ea717a2bd1f8940a7df06d528f72c0a674d7d37a76e46203cd2a165e495", func := "quadrat/quadratlaw06.SectionNexts", spec := "sectionNexts", unfollowed := true, recurses := true, apart := false }
def SectionNextsSaid : Prop := sectionNextsRow.holds Try.pinned (OpenSpec.ofChange sectionNextsSpec)

/-- ITS FALSE NEIGHBOUR: 'it returns false'. Refute it at one input. -/
def sectionNextsWrong : ChangeSpec := { name := "sectionNexts", fn := fun _ => fun
  | [d1, d2] => { results := [.lit (.bool false)], args := [d1, d2] }
  | _ => none }
def SectionNextsWrongFalsely : Prop := sectionNextsRow.holds Try.pinned (OpenSpec.ofChange sectionNextsWrong)

/-- 'quadratlaw06.SectionPlaces': WHATEVER THE INPUT: true; the input reads as it did. -/
def sectionPlacesSpec : ChangeSpec := { name := "sectionPlaces", fn := fun _ => fun
  | [d1, d2] => { results := [.lit (.bool true)], args := [d1, d2] }
  | _ => none }
def sectionPlacesRow : OpenClaim := { program := "yticjlkommabcjaa", sum := "f8972ea717a2bd1f8940a7df06d528f72c0a674d7d37a76e46203cd2a165e495", func := "quadrat/quadratlaw06.SectionPlaces", spec := "sectionPlaces", unfollowed := true, recurses := true, apart := false }
def SectionPlacesSaid : Prop := sectionPlacesRow.holds Try.pinned (OpenSpec.ofChange sectionPlacesSpec)

/-- ITS FALSE NEIGHBOUR: 'it returns false'. Refute it at one input. -/
def sectionPlacesWrong : ChangeSpec := { name := "sectionPlaces", fn := fun _ => fun
  | [d1, d2] => { results := [.lit (.bool false)], args := [d1, d2] }
  | _ => none }
def SectionPlacesWrongFalsely : Prop := sectionPlacesRow.holds Try.pinned (OpenSpec.ofChange sectionPlacesWrong)

/-- 'quadratlaw06.SectionShares': WHATEVER THE INPUT: true; the input reads as it did. -/
def sectionSharesSpec : ChangeSpec := { name := "sectionShares", fn := fun _ => fun
  | [d1, d2] => { results := [.lit (.bool true)], args := [d1, d2] }
  | _ => none }
def sectionSharesRow : OpenClaim := { program := "yticjlkommabcjaa", sum := "f8972ea717a2bd1f8940a7df06d528f72c0a674d7d37a76e46203cd2a165e495", func := "quadrat/quadratlaw06.SectionShares", spec := "sectionShares", unfollowed := true, recurses := true, apart := false }
def SectionSharesSaid : Prop := sectionSharesRow.holds Try.pinned (OpenSpec.ofChange sectionSharesSpec)

/-- ITS FALSE NEIGHBOUR: 'it returns false'. Refute it at one input. -/
def sectionSharesWrong : ChangeSpec := { name := "sectionShares", fn := fun _ => fun
  | [d1, d2] => { results := [.lit (.bool false)], args := [d1, d2] }
  | _ => none }
def SectionSharesWrongFalsely : Prop := sectionSharesRow.holds Try.pinned (OpenSpec.ofChange sectionSharesWrong)

/-- 'quadratlaw06.SectionTurns': WHATEVER THE INPUT: true; the input reads as it did. -/
def sectionTurnsSpec : ChangeSpec := { name := "sectionTurns", fn := fun _ => fun
  | [d1, d2] => { results := [.lit (.bool true)], args := [d1, d2] }
  | _ => none }
def sectionTurnsRow : OpenClaim := { program := "yticjlkommabcjaa", sum := "f8972ea717a2bd1f8940a7df06d528f72c0a674d7d37a76e46203cd2a165e495", func := "quadrat/quadratlaw06.SectionTurns", spec := "sectionTurns", unfollowed := true, recurses := true, apart := false }
def SectionTurnsSaid : Prop := sectionTurnsRow.holds Try.pinned (OpenSpec.ofChange sectionTurnsSpec)

/-- ITS FALSE NEIGHBOUR: 'it returns false'. Refute it at one input. -/
def sectionTurnsWrong : ChangeSpec := { name := "sectionTurns", fn := fun _ => fun
  | [d1, d2] => { results := [.lit (.bool false)], args := [d1, d2] }
  | _ => none }
def SectionTurnsWrongFalsely : Prop := sectionTurnsRow.holds Try.pinned (OpenSpec.ofChange sectionTurnsWrong)

/-- 'quadratlaw06.SectionWalks': WHATEVER THE INPUT: true; the input reads as it did. -/
def sectionWalksSpec : ChangeSpec := { name := "sectionWalks", fn := fun _ => fun
  | [d] => { results := [.lit (.bool true)], args := [d] }
  | _ => none }
def sectionWalksRow : OpenClaim := { program := "yticjlkommabcjaa", sum := "f8972ea717a2bd1f8940a7df06d528f72c0a674d7d37a76e46203cd2a165e495", func := "quadrat/quadratlaw06.SectionWalks", spec := "sectionWalks", unfollowed := true, recurses := true, apart := false }
def SectionWalksSaid : Prop := sectionWalksRow.holds Try.pinned (OpenSpec.ofChange sectionWalksSpec)

/-- ITS FALSE NEIGHBOUR: 'it returns false'. Refute it at one input. -/
def sectionWalksWrong : ChangeSpec := { name := "sectionWalks", fn := fun _ => fun
  | [d] => { results := [.lit (.bool false)], args := [d] }
  | _ => none }
def SectionWalksWrongFalsely : Prop := sectionWalksRow.holds Try.pinned (OpenSpec.ofChange sectionWalksWrong)

/-- 'quadratlaw06.SectionPicks': WHATEVER THE INPUT: true; the input reads as it did. -/
def sectionPicksSpec : ChangeSpec := { name := "sectionPicks", fn := fun _ => fun
  | [d1, d2] => { results := [.lit (.bool true)], args := [d1, d2] }
  | _ => none }
def sectionPicksRow : OpenClaim := { program := "yticjlkommabcjaa", sum := "f8972ea717a2bd1f8940a7df06d528f72c0a674d7d37a76e46203cd2a165e495", func := "quadrat/quadratlaw06.SectionPicks", spec := "sectionPicks", unfollowed := true, recurses := true, apart := false }
def SectionPicksSaid : Prop := sectionPicksRow.holds Try.pinned (OpenSpec.ofChange sectionPicksSpec)

/-- ITS FALSE NEIGHBOUR: 'it returns false'. Refute it at one input. -/
def sectionPicksWrong : ChangeSpec := { name := "sectionPicks", fn := fun _ => fun
  | [d1, d2] => { results := [.lit (.bool false)], args := [d1, d2] }
  | _ => none }
def SectionPicksWrongFalsely : Prop := sectionPicksRow.holds Try.pinned (OpenSpec.ofChange sectionPicksWrong)

/- THE SECOND FORM. 'bulk': how many values and letters a reading holds, each counted each time it is reached (what is shared counts as often as it is met; a slice's spare places count too). A statement '..UptoSaid' is the law's where the arguments, and the package variables that the reading takes, are together of bulk at most 1048576: NARROWER than '..Said'. Prove '..Said' where nothing that the law and all that it calls make is longer than what came in: it says more and counts as full. Else prove '..UptoSaid'. A law counts once. -/
mutual
def uptoBulk {H : Type} : DataW H → Nat
  | .lit (.string bytes) => bytes.length + 1
  | .lit _ => 1
  | .nil => 1
  | .ptr d => uptoBulk d + 1
  | .slice elems spare => uptoBulkAll elems + uptoBulkAll spare + 1
  | .agg parts => uptoBulkAll parts + 1
  | .iface _ d => uptoBulk d + 1
  | .map entries => uptoBulkEntries entries + 1
  | .held _ => 1
def uptoBulkAll {H : Type} : List (DataW H) → Nat
  | [] => 0
  | d :: r => uptoBulk d + uptoBulkAll r
def uptoBulkEntries {H : Type} : List (Lit × DataW H) → Nat
  | [] => 0
  | x :: r => uptoBulkEntry x + uptoBulkEntries r
def uptoBulkEntry {H : Type} : Lit × DataW H → Nat
  | (.string bytes, d) => bytes.length + uptoBulk d + 1
  | (_, d) => uptoBulk d + 1
 end
def uptoSmall : (H : Type) → List (DataW H) → Bool := fun _ ds => decide (uptoBulkAll ds ≤ 1048576)
def OpenSpec.upto (s : _root_.Go.ChangeSpec) : _root_.Go.OpenSpec := { _root_.Go.OpenSpec.ofChange s with cond := some uptoSmall }

/-- 'quadratlaw06.SectionCounts', WHERE WHAT IT READS IS OF BULK AT MOST 1048576: true; the input reads as it did. -/
def sectionCountsUptoRow : OpenClaim := { program := "yticjlkommabcjaa", sum := "f8972ea717a2bd1f8940a7df06d528f72c0a674d7d37a76e46203cd2a165e495", func := "quadrat/quadratlaw06.SectionCounts", spec := "sectionCounts", unfollowed := true, recurses := true, apart := false, narrowed := true }
def SectionCountsUptoSaid : Prop := sectionCountsUptoRow.holds Try.pinned (OpenSpec.upto sectionCountsSpec)

/-- 'quadratlaw06.SectionCuts', WHERE WHAT IT READS IS OF BULK AT MOST 1048576: true; the input reads as it did. -/
def sectionCutsUptoRow : OpenClaim := { program := "yticjlkommabcjaa", sum := "f8972ea717a2bd1f8940a7df06d528f72c0a674d7d37a76e46203cd2a165e495", func := "quadrat/quadratlaw06.SectionCuts", spec := "sectionCuts", unfollowed := true, recurses := true, apart := false, narrowed := true }
def SectionCutsUptoSaid : Prop := sectionCutsUptoRow.holds Try.pinned (OpenSpec.upto sectionCutsSpec)

/-- 'quadratlaw06.SectionAts', WHERE WHAT IT READS IS OF BULK AT MOST 1048576: true; the input reads as it did. -/
def sectionAtsUptoRow : OpenClaim := { program := "yticjlkommabcjaa", sum := "f8972ea717a2bd1f8940a7df06d528f72c0a674d7d37a76e46203cd2a165e495", func := "quadrat/quadratlaw06.SectionAts", spec := "sectionAts", unfollowed := true, recurses := true, apart := false, narrowed := true }
def SectionAtsUptoSaid : Prop := sectionAtsUptoRow.holds Try.pinned (OpenSpec.upto sectionAtsSpec)

/-- 'quadratlaw06.SectionNexts', WHERE WHAT IT READS IS OF BULK AT MOST 1048576: true; the input reads as it did. -/
def sectionNextsUptoRow : OpenClaim := { program := "yticjlkommabcjaa", sum := "f8972ea717a2bd1f8940a7df06d528f72c0a674d7d37a76e46203cd2a165e495", func := "quadrat/quadratlaw06.SectionNexts", spec := "sectionNexts", unfollowed := true, recurses := true, apart := false, narrowed := true }
def SectionNextsUptoSaid : Prop := sectionNextsUptoRow.holds Try.pinned (OpenSpec.upto sectionNextsSpec)

/-- 'quadratlaw06.SectionPlaces', WHERE WHAT IT READS IS OF BULK AT MOST 1048576: true; the input reads as it did. -/
def sectionPlacesUptoRow : OpenClaim := { program := "yticjlkommabcjaa", sum := "f8972ea717a2bd1f8940a7df06d528f72c0a674d7d37a76e46203cd2a165e495", func := "quadrat/quadratlaw06.SectionPlaces", spec := "sectionPlaces", unfollowed := true, recurses := true, apart := false, narrowed := true }
def SectionPlacesUptoSaid : Prop := sectionPlacesUptoRow.holds Try.pinned (OpenSpec.upto sectionPlacesSpec)

/-- 'quadratlaw06.SectionShares', WHERE WHAT IT READS IS OF BULK AT MOST 1048576: true; the input reads as it did. -/
def sectionSharesUptoRow : OpenClaim := { program := "yticjlkommabcjaa", sum := "f8972ea717a2bd1f8940a7df06d528f72c0a674d7d37a76e46203cd2a165e495", func := "quadrat/quadratlaw06.SectionShares", spec := "sectionShares", unfollowed := true, recurses := true, apart := false, narrowed := true }
def SectionSharesUptoSaid : Prop := sectionSharesUptoRow.holds Try.pinned (OpenSpec.upto sectionSharesSpec)

/-- 'quadratlaw06.SectionTurns', WHERE WHAT IT READS IS OF BULK AT MOST 1048576: true; the input reads as it did. -/
def sectionTurnsUptoRow : OpenClaim := { program := "yticjlkommabcjaa", sum := "f8972ea717a2bd1f8940a7df06d528f72c0a674d7d37a76e46203cd2a165e495", func := "quadrat/quadratlaw06.SectionTurns", spec := "sectionTurns", unfollowed := true, recurses := true, apart := false, narrowed := true }
def SectionTurnsUptoSaid : Prop := sectionTurnsUptoRow.holds Try.pinned (OpenSpec.upto sectionTurnsSpec)

/-- 'quadratlaw06.SectionWalks', WHERE WHAT IT READS IS OF BULK AT MOST 1048576: true; the input reads as it did. -/
def sectionWalksUptoRow : OpenClaim := { program := "yticjlkommabcjaa", sum := "f8972ea717a2bd1f8940a7df06d528f72c0a674d7d37a76e46203cd2a165e495", func := "quadrat/quadratlaw06.SectionWalks", spec := "sectionWalks", unfollowed := true, recurses := true, apart := false, narrowed := true }
def SectionWalksUptoSaid : Prop := sectionWalksUptoRow.holds Try.pinned (OpenSpec.upto sectionWalksSpec)

/-- 'quadratlaw06.SectionPicks', WHERE WHAT IT READS IS OF BULK AT MOST 1048576: true; the input reads as it did. -/
def sectionPicksUptoRow : OpenClaim := { program := "yticjlkommabcjaa", sum := "f8972ea717a2bd1f8940a7df06d528f72c0a674d7d37a76e46203cd2a165e495", func := "quadrat/quadratlaw06.SectionPicks", spec := "sectionPicks", unfollowed := true, recurses := true, apart := false, narrowed := true }
def SectionPicksUptoSaid : Prop := sectionPicksUptoRow.holds Try.pinned (OpenSpec.upto sectionPicksSpec)

end Rows
end Go.Proofs.Yticjlkommabcjaa
