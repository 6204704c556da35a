/- section.isNumber. -/
import Derived.Test.YtnbijiopcgfmfaaTevPr
namespace Go.Proofs.Ytnbijiopcgfmfaa.Tev
open Go Go.RowKit Go.Proofs Go.Proofs.Ytnbijiopcgfmfaa.Q
set_option linter.unusedSectionVars false
set_option maxRecDepth 100000
set_option maxHeartbeats 0
set_option linter.unusedSimpArgs false
set_option linter.unusedVariables false
theorem c_isNumber (n : Int) : CALL 37 [I n] = some (B (decide (nearS n)), []) := by
  refine lim_run (fn := Try.f37) fn37 rfl body37 (Nat.le_of_ble_eq_true rfl) ok37 ?_
  simp (config := { maxSteps := 1000000 }) (disch := omega) only [push_cast, ↓reduceIte, Nat.reduceEqDiff, Nat.reduceAdd, Nat.reduceLT, Nat.reduceLeDiff, Nat.reduceBEq, Nat.reduceMul, Nat.reduceSub, Int.reduceToNat, Int.reduceEq, Int.reduceLT, Int.reduceLE, Int.reduceNeg, Int.reduceAdd, Int.reduceSub, Int.reduceMul, Try.f37, kr37, ty4, tb4]
  unfold nearS
  by_cases h : -2147483648 ≤ n <;> simp [h]
end Go.Proofs.Ytnbijiopcgfmfaa.Tev
