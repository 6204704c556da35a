/- The sanity check of layer 6. -/
import Derived.Test.YticjlkommabcjaaCSec4
import Derived.Test.YticjlkommabcjaaCRef
namespace Go.Proofs.Yticjlkommabcjaa.Tev
open Go Go.RowKit Go.Proofs Go.Proofs.Yticjlkommabcjaa.Q
set_option linter.unusedSectionVars false
set_option maxRecDepth 100000
set_option maxHeartbeats 0
set_option linter.unusedSimpArgs false
set_option linter.unusedVariables false
theorem ints_2 (x y : Int) : ints [x, y] = [.v (.int .i64 x), .v (.int .i64 y)] := rfl
theorem cut_one : CALL 15 [.agg [I 0, SL false none 2 [CI 4, CI 3], SL false none 2 [CI 1, CI 4]], SL false (some 2) 2 [.v (.bool false), CI 0, CI 1, CI 3, CI 2, .v (.bool true), CI 2, CI 0, CI 0, CI 0]] = some (.tup [.agg [I 9, .sl 0 0 1 1 none, .sl 1 0 1 1 none], I 0], [[CI 2], [CI 2]]) := by
  have hv := c_Valid 0 false false none none [4, 3] [1, 4] (by decide) (by decide)
  rw [decide_eq_true (by decide)] at hv
  have hc := c_Count 1 3 2
  rw [if_pos (by decide), if_pos (by decide), show cnt 1 3 2 = 2 by decide] at hc
  simp only [Dsc, ints_2, List.length_cons, List.length_nil, Nat.zero_add, Nat.reduceAdd] at hv
  have hc0 := c_Count 0 0 0
  rw [if_neg (by decide), if_neg (by decide)] at hc0
  have hz := c_size false none [4, 3] (by decide)
  rw [show sizeQ [4, 3] = 12 by decide] at hz
  simp only [Dsc, ints_2, List.length_cons, List.length_nil, Nat.zero_add, Nat.reduceAdd] at hz
  refine lim_run (fn := Try.f15) fn15 rfl body15 (Nat.le_of_ble_eq_true rfl) ok15 ?_
  simp (config := { maxSteps := 1000000 }) (disch := omega) only [push_cast, ↓reduceIte, Nat.reduceEqDiff, Nat.reduceAdd, Nat.reduceLT, Nat.reduceLeDiff, Nat.reduceBEq, Nat.reduceMul, Nat.reduceSub, Int.reduceToNat, Int.reduceEq, Int.reduceLT, Int.reduceLE, Int.reduceNeg, Int.reduceAdd, Int.reduceSub, Int.reduceMul, Try.f15, kr15, kp15_12, kp15_4, ow15_12, ow15_4, ty3, ty4, ty23, ty24, ty29, ty31, ty32, ty58, tb4, hv, hc, hc0, hz, fun S0 => lp_eq (S0 := S0) (pr := pr0) lp15_4, fun S0 => lp_eq (S0 := S0) (pr := pr0) lp15_12]
  rw [if_neg (by decide), if_neg (by decide)]
theorem c_Awake : CALL 14 [] = some (B true, []) := by
  have hw := c_Whole false (some 2) [4, 3] (by decide)
  simp only [show wholeE [4, 3] = [4, 3] by decide, show wholeT [4, 3] = [1, 4] by decide, show errE [4, 3] = 0 by decide, ints_2, List.length_cons, List.length_nil, Nat.zero_add, Nat.reduceAdd] at hw
  have h1 := r_SameInts false false none (some 2) [1, 4] [1, 4] (by decide)
  have h2 := r_SameInts false false none (some 1) [2] [2] (by decide)
  rw [decide_eq_true rfl] at h1 h2
  simp only [ints_2, ints_1, List.length_cons, List.length_nil, Nat.zero_add, Nat.reduceAdd] at h1 h2
  refine lim_run (fn := Try.f14) fn14 rfl body14 (Nat.le_of_ble_eq_true rfl) ok14 ?_
  simp (config := { maxSteps := 1000000 }) (disch := omega) only [push_cast, ↓reduceIte, Nat.reduceEqDiff, Nat.reduceAdd, Nat.reduceLT, Nat.reduceLeDiff, Nat.reduceBEq, Nat.reduceMul, Nat.reduceSub, Int.reduceToNat, Int.reduceEq, Int.reduceLT, Int.reduceLE, Int.reduceNeg, Int.reduceAdd, Int.reduceSub, Int.reduceMul, Try.f14, kr14, ty3, ty4, ty23, ty29, ty31, ty32, ty58, tb4, hw, cut_one, h1, h2, rowAt]
end Go.Proofs.Yticjlkommabcjaa.Tev
