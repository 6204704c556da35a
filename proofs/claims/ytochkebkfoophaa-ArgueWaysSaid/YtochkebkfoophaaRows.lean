/-
  No cell of these rows narrows 'for every input' (looked for: loops, veiled, ifaces, maps, wideKeys, modest, calm, conditions, laid).
  DERIVED. THE GIVEN ROWS OF THIS SEAT. 6 by the template 'for every input the law returns true; each argument reads behind the call as it read before'; 0 by the template 'total and deterministic' (their statements: YtochkebkfoophaaTotals.lean).
  GIVEN WITH THE SEED: the statements are not yours to turn. If you find one false, say at which input.
  Laid BY PROGRAM, IN A SANDBOX (cutbox-rows.mjs): the forced cells as the released guide's own fill.sh prints them over the translation 86bbbf09316b9905… (all of the seat's roots in one cut). By AI agents, Wed Nov 11 2026. No macro, syntax, notation, axiom, sorry.
-/
import Derived.Test.YtochkebkfoophaaChecked
import GoSem.Claim
import GoSem.ClaimJoined
import GoSem.ClaimMapViews
import Derived.JoinedTies
import Derived.KernelRfl
namespace Go.Proofs.Ytochkebkfoophaa
/- THE CELL 'sum', in the pinned program and in every row, IS THE sha256 OF THE DUMP (.gsa) THAT YtochkebkfoophaaProg.lean LOADS. Nothing in Lean hashes anything: it is a label: what it is worth is what the hold of that sum in a sandbox is worth. -/
noncomputable def Try.pinned : Pinned := { name := "ytochkebkfoophaa", sum := "86bbbf09316b99050df906b238fdece690f369aeee3d2591f55361a948fb3dac", checked := Try.checked }
namespace Rows
def none {H : Type} : Left H := { results := [], args := [] }

/-- 'quadratlaw24.ArgueSees': WHATEVER THE INPUT: true; the input reads as it did. -/
def argueSeesSpec : ChangeSpec := { name := "argueSees", fn := fun _ => fun
  | [d1, d2] => { results := [.lit (.bool true)], args := [d1, d2] }
  | _ => none }
def argueSeesRow : OpenClaim := { program := "ytochkebkfoophaa", sum := "86bbbf09316b99050df906b238fdece690f369aeee3d2591f55361a948fb3dac", func := "quadrat/quadratlaw24.ArgueSees", spec := "argueSees", unfollowed := true, recurses := true, apart := false }
def ArgueSeesSaid : Prop := argueSeesRow.holds Try.pinned (OpenSpec.ofChange argueSeesSpec)

/-- ITS FALSE NEIGHBOUR: 'it returns false'. Refute it at one input. -/
def argueSeesWrong : ChangeSpec := { name := "argueSees", fn := fun _ => fun
  | [d1, d2] => { results := [.lit (.bool false)], args := [d1, d2] }
  | _ => none }
def ArgueSeesWrongFalsely : Prop := argueSeesRow.holds Try.pinned (OpenSpec.ofChange argueSeesWrong)

/-- 'quadratlaw24.ArguePacks': WHATEVER THE INPUT: true; the input reads as it did. -/
def arguePacksSpec : ChangeSpec := { name := "arguePacks", fn := fun _ => fun
  | [d1, d2, d3] => { results := [.lit (.bool true)], args := [d1, d2, d3] }
  | _ => none }
def arguePacksRow : OpenClaim := { program := "ytochkebkfoophaa", sum := "86bbbf09316b99050df906b238fdece690f369aeee3d2591f55361a948fb3dac", func := "quadrat/quadratlaw24.ArguePacks", spec := "arguePacks", unfollowed := true, recurses := true, apart := false }
def ArguePacksSaid : Prop := arguePacksRow.holds Try.pinned (OpenSpec.ofChange arguePacksSpec)

/-- ITS FALSE NEIGHBOUR: 'it returns false'. Refute it at one input. -/
def arguePacksWrong : ChangeSpec := { name := "arguePacks", fn := fun _ => fun
  | [d1, d2, d3] => { results := [.lit (.bool false)], args := [d1, d2, d3] }
  | _ => none }
def ArguePacksWrongFalsely : Prop := arguePacksRow.holds Try.pinned (OpenSpec.ofChange arguePacksWrong)

/-- 'quadratlaw24.ArgueStrips': WHATEVER THE INPUT: true; the input reads as it did. -/
def argueStripsSpec : ChangeSpec := { name := "argueStrips", fn := fun _ => fun
  | [d] => { results := [.lit (.bool true)], args := [d] }
  | _ => none }
def argueStripsRow : OpenClaim := { program := "ytochkebkfoophaa", sum := "86bbbf09316b99050df906b238fdece690f369aeee3d2591f55361a948fb3dac", func := "quadrat/quadratlaw24.ArgueStrips", spec := "argueStrips", unfollowed := true, recurses := true, apart := false }
def ArgueStripsSaid : Prop := argueStripsRow.holds Try.pinned (OpenSpec.ofChange argueStripsSpec)

/-- ITS FALSE NEIGHBOUR: 'it returns false'. Refute it at one input. -/
def argueStripsWrong : ChangeSpec := { name := "argueStrips", fn := fun _ => fun
  | [d] => { results := [.lit (.bool false)], args := [d] }
  | _ => none }
def ArgueStripsWrongFalsely : Prop := argueStripsRow.holds Try.pinned (OpenSpec.ofChange argueStripsWrong)

/-- 'quadratlaw24.ArgueEnters': WHATEVER THE INPUT: true; the input reads as it did. -/
def argueEntersSpec : ChangeSpec := { name := "argueEnters", fn := fun _ => fun
  | [d1, d2, d3] => { results := [.lit (.bool true)], args := [d1, d2, d3] }
  | _ => none }
def argueEntersRow : OpenClaim := { program := "ytochkebkfoophaa", sum := "86bbbf09316b99050df906b238fdece690f369aeee3d2591f55361a948fb3dac", func := "quadrat/quadratlaw24.ArgueEnters", spec := "argueEnters", unfollowed := true, recurses := true, apart := false }
def ArgueEntersSaid : Prop := argueEntersRow.holds Try.pinned (OpenSpec.ofChange argueEntersSpec)

/-- ITS FALSE NEIGHBOUR: 'it returns false'. Refute it at one input. -/
def argueEntersWrong : ChangeSpec := { name := "argueEnters", fn := fun _ => fun
  | [d1, d2, d3] => { results := [.lit (.bool false)], args := [d1, d2, d3] }
  | _ => none }
def ArgueEntersWrongFalsely : Prop := argueEntersRow.holds Try.pinned (OpenSpec.ofChange argueEntersWrong)

/-- 'quadratlaw24.ArgueAliases': WHATEVER THE INPUT: true; the input reads as it did. -/
def argueAliasesSpec : ChangeSpec := { name := "argueAliases", fn := fun _ => fun
  | [d] => { results := [.lit (.bool true)], args := [d] }
  | _ => none }
def argueAliasesRow : OpenClaim := { program := "ytochkebkfoophaa", sum := "86bbbf09316b99050df906b238fdece690f369aeee3d2591f55361a948fb3dac", func := "quadrat/quadratlaw24.ArgueAliases", spec := "argueAliases", unfollowed := true, recurses := true, apart := false }
def ArgueAliasesSaid : Prop := argueAliasesRow.holds Try.pinned (OpenSpec.ofChange argueAliasesSpec)

/-- ITS FALSE NEIGHBOUR: 'it returns false'. Refute it at one input. -/
def argueAliasesWrong : ChangeSpec := { name := "argueAliases", fn := fun _ => fun
  | [d] => { results := [.lit (.bool false)], args := [d] }
  | _ => none }
def ArgueAliasesWrongFalsely : Prop := argueAliasesRow.holds Try.pinned (OpenSpec.ofChange argueAliasesWrong)

/-- 'quadratlaw24.ArgueWays': WHATEVER THE INPUT: true; the input reads as it did. -/
def argueWaysSpec : ChangeSpec := { name := "argueWays", fn := fun _ => fun
  | [d1, d2, d3] => { results := [.lit (.bool true)], args := [d1, d2, d3] }
  | _ => none }
def argueWaysRow : OpenClaim := { program := "ytochkebkfoophaa", sum := "86bbbf09316b99050df906b238fdece690f369aeee3d2591f55361a948fb3dac", func := "quadrat/quadratlaw24.ArgueWays", spec := "argueWays", unfollowed := true, recurses := true, apart := false }
def ArgueWaysSaid : Prop := argueWaysRow.holds Try.pinned (OpenSpec.ofChange argueWaysSpec)

/-- ITS FALSE NEIGHBOUR: 'it returns false'. Refute it at one input. -/
def argueWaysWrong : ChangeSpec := { name := "argueWays", fn := fun _ => fun
  | [d1, d2, d3] => { results := [.lit (.bool false)], args := [d1, d2, d3] }
  | _ => none }
def ArgueWaysWrongFalsely : Prop := argueWaysRow.holds Try.pinned (OpenSpec.ofChange argueWaysWrong)

/- THE SECOND FORM. 'bulk': how many values and letters a reading holds, each counted each time it is reached (what is shared counts as often as it is met; a slice's spare places count too). A statement '..UptoSaid' is the law's where the arguments, and the package variables that the reading takes, are together of bulk at most 1048576: NARROWER than '..Said'. Prove '..Said' where nothing that the law and all that it calls make is longer than what came in: it says more and counts as full. Else prove '..UptoSaid'. A law counts once. -/
mutual
def uptoBulk {H : Type} : DataW H → Nat
  | .lit (.string bytes) => bytes.length + 1
  | .lit _ => 1
  | .nil => 1
  | .ptr d => uptoBulk d + 1
  | .slice elems spare => uptoBulkAll elems + uptoBulkAll spare + 1
  | .agg parts => uptoBulkAll parts + 1
  | .iface _ d => uptoBulk d + 1
  | .map entries => uptoBulkEntries entries + 1
  | .held _ => 1
def uptoBulkAll {H : Type} : List (DataW H) → Nat
  | [] => 0
  | d :: r => uptoBulk d + uptoBulkAll r
def uptoBulkEntries {H : Type} : List (Lit × DataW H) → Nat
  | [] => 0
  | x :: r => uptoBulkEntry x + uptoBulkEntries r
def uptoBulkEntry {H : Type} : Lit × DataW H → Nat
  | (.string bytes, d) => bytes.length + uptoBulk d + 1
  | (_, d) => uptoBulk d + 1
 end
def uptoSmall : (H : Type) → List (DataW H) → Bool := fun _ ds => decide (uptoBulkAll ds ≤ 1048576)
def OpenSpec.upto (s : _root_.Go.ChangeSpec) : _root_.Go.OpenSpec := { _root_.Go.OpenSpec.ofChange s with cond := some uptoSmall }

/-- 'quadratlaw24.ArgueSees', WHERE WHAT IT READS IS OF BULK AT MOST 1048576: true; the input reads as it did. -/
def argueSeesUptoRow : OpenClaim := { program := "ytochkebkfoophaa", sum := "86bbbf09316b99050df906b238fdece690f369aeee3d2591f55361a948fb3dac", func := "quadrat/quadratlaw24.ArgueSees", spec := "argueSees", unfollowed := true, recurses := true, apart := false, narrowed := true }
def ArgueSeesUptoSaid : Prop := argueSeesUptoRow.holds Try.pinned (OpenSpec.upto argueSeesSpec)

/-- 'quadratlaw24.ArguePacks', WHERE WHAT IT READS IS OF BULK AT MOST 1048576: true; the input reads as it did. -/
def arguePacksUptoRow : OpenClaim := { program := "ytochkebkfoophaa", sum := "86bbbf09316b99050df906b238fdece690f369aeee3d2591f55361a948fb3dac", func := "quadrat/quadratlaw24.ArguePacks", spec := "arguePacks", unfollowed := true, recurses := true, apart := false, narrowed := true }
def ArguePacksUptoSaid : Prop := arguePacksUptoRow.holds Try.pinned (OpenSpec.upto arguePacksSpec)

/-- 'quadratlaw24.ArgueStrips', WHERE WHAT IT READS IS OF BULK AT MOST 1048576: true; the input reads as it did. -/
def argueStripsUptoRow : OpenClaim := { program := "ytochkebkfoophaa", sum := "86bbbf09316b99050df906b238fdece690f369aeee3d2591f55361a948fb3dac", func := "quadrat/quadratlaw24.ArgueStrips", spec := "argueStrips", unfollowed := true, recurses := true, apart := false, narrowed := true }
def ArgueStripsUptoSaid : Prop := argueStripsUptoRow.holds Try.pinned (OpenSpec.upto argueStripsSpec)

/-- 'quadratlaw24.ArgueEnters', WHERE WHAT IT READS IS OF BULK AT MOST 1048576: true; the input reads as it did. -/
def argueEntersUptoRow : OpenClaim := { program := "ytochkebkfoophaa", sum := "86bbbf09316b99050df906b238fdece690f369aeee3d2591f55361a948fb3dac", func := "quadrat/quadratlaw24.ArgueEnters", spec := "argueEnters", unfollowed := true, recurses := true, apart := false, narrowed := true }
def ArgueEntersUptoSaid : Prop := argueEntersUptoRow.holds Try.pinned (OpenSpec.upto argueEntersSpec)

/-- 'quadratlaw24.ArgueAliases', WHERE WHAT IT READS IS OF BULK AT MOST 1048576: true; the input reads as it did. -/
def argueAliasesUptoRow : OpenClaim := { program := "ytochkebkfoophaa", sum := "86bbbf09316b99050df906b238fdece690f369aeee3d2591f55361a948fb3dac", func := "quadrat/quadratlaw24.ArgueAliases", spec := "argueAliases", unfollowed := true, recurses := true, apart := false, narrowed := true }
def ArgueAliasesUptoSaid : Prop := argueAliasesUptoRow.holds Try.pinned (OpenSpec.upto argueAliasesSpec)

/-- 'quadratlaw24.ArgueWays', WHERE WHAT IT READS IS OF BULK AT MOST 1048576: true; the input reads as it did. -/
def argueWaysUptoRow : OpenClaim := { program := "ytochkebkfoophaa", sum := "86bbbf09316b99050df906b238fdece690f369aeee3d2591f55361a948fb3dac", func := "quadrat/quadratlaw24.ArgueWays", spec := "argueWays", unfollowed := true, recurses := true, apart := false, narrowed := true }
def ArgueWaysUptoSaid : Prop := argueWaysUptoRow.holds Try.pinned (OpenSpec.upto argueWaysSpec)

end Rows
end Go.Proofs.Ytochkebkfoophaa
