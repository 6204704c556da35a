/- The sanity check of layer 22. -/
import Derived.Test.YtnbijiopcgfmfaaC22a
namespace Go.Proofs.Ytnbijiopcgfmfaa.Tev
open Go Go.RowKit Go.Proofs Go.Proofs.Ytnbijiopcgfmfaa.Q
set_option linter.unusedSectionVars false
set_option maxRecDepth 100000
set_option maxHeartbeats 0
set_option linter.unusedSimpArgs false
set_option linter.unusedVariables false
theorem c_Awake22 : CALL 6 [] = some (B true, []) := by
  have h1 := c_First 1 1 1 5 1 1 5
  have h2 := c_Part 1 1 1 5 1 1 5
  simp only [show askE 1 5 1 [1, 1, 1, 5] = 0 by decide, if_true, show partQ 1 1 1 1 1 5 (cnt 1 5 1) = (0, 4) by decide, show firstOf (cnt 1 5 1) 0 4 = 4 by decide] at h1 h2
  refine lim_run (fn := Try.f6) fn6 rfl body6 (Nat.le_of_ble_eq_true rfl) ok6 ?_
  simp (config := { maxSteps := 1000000 }) (disch := omega) only [push_cast, ↓reduceIte, Nat.reduceEqDiff, Nat.reduceAdd, Nat.reduceLT, Nat.reduceLeDiff, Nat.reduceBEq, Nat.reduceMul, Nat.reduceSub, Int.reduceToNat, Int.reduceEq, Int.reduceLT, Int.reduceLE, Int.reduceNeg, Int.reduceAdd, Int.reduceSub, Int.reduceMul, Try.f6, kr6, ty3, ty4, ty23, tb4, h1, h2]
end Go.Proofs.Ytnbijiopcgfmfaa.Tev
