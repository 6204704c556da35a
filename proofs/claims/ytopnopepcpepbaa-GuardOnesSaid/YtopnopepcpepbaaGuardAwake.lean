/- The example that each law asks. -/
import Derived.Test.YtopnopepcpepbaaGuardPart2
import Derived.Test.YtopnopepcpepbaaPGx10
set_option linter.unusedVariables false
namespace Go.Proofs.Ytopnopepcpepbaa.Pure
open Go.RowKit Go.Proofs.YtopnopepcpepbaaW.PrintWords Go.Proofs.YtopnopepcpepbaaW.PrintMore Go.Proofs.Ytopnopepcpepbaa.PG Go.Proofs.Ytopnopepcpepbaa.Ar

theorem awake (k : Nat) (hk : 100 ≤ k) : quadratlaw22_Awake.f k = some true :=
  at_rounds (fun k => quadratlaw22_Awake.mono k) hk (show quadratlaw22_Awake.f 100 = some true by decide +kernel)
end Go.Proofs.Ytopnopepcpepbaa.Pure
