/- The example that each law of the sections asks. -/
import Derived.Test.YticjlkommabcjaaSecLib
import Derived.Test.YticjlkommabcjaaPSx9
set_option linter.unusedVariables false
namespace Go.Proofs.Yticjlkommabcjaa.Pure
open Go.RowKit Go.Proofs.YticjlkommabcjaaW.PrintWords Go.Proofs.YticjlkommabcjaaW.PrintMore Go.Proofs.Yticjlkommabcjaa.PS Go.Proofs.Yticjlkommabcjaa.Ar

theorem awake (k : Nat) (hk : 100 ≤ k) : quadratlaw06_Awake.f k = some true :=
  at_rounds (fun k => quadratlaw06_Awake.mono k) hk (show quadratlaw06_Awake.f 100 = some true by decide +kernel)

theorem awk_snd (k : Nat) (hk : 100 ≤ k) : (quadratlaw06_Awake.f k).bind (fun t => some t) = some true := by rw [awake k hk]; rfl
end Go.Proofs.Yticjlkommabcjaa.Pure
