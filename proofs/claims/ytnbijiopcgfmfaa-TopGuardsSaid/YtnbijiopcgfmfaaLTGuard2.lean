/- The law TopGuards: what it returns for any input, the guards too. -/
import Derived.Test.YtnbijiopcgfmfaaLTGuards
namespace Go.Proofs.Ytnbijiopcgfmfaa.Tev
open Go Go.RowKit Go.Proofs Go.Proofs.Ytnbijiopcgfmfaa.Q
set_option linter.unusedSectionVars false
set_option maxRecDepth 100000
set_option maxHeartbeats 0
set_option linter.unusedSimpArgs false
set_option linter.unusedVariables false
section
variable (a b lo hi st n : Int)
theorem TopGuards_true' : CALL 3 [I a, I b, Tri lo hi st, I n] = some (B true, []) := by
  by_cases g1 : n < 1
  · refine lim_run (fn := Try.f3) fn3 rfl body3 (Nat.le_of_ble_eq_true rfl) ok3 ?_
    simp (config := { maxSteps := 1000000 }) (disch := omega) only [push_cast, ↓reduceIte, Nat.reduceEqDiff, Nat.reduceAdd, Nat.reduceLT, Nat.reduceLeDiff, Nat.reduceBEq, Nat.reduceMul, Nat.reduceSub, Int.reduceToNat, Int.reduceEq, Int.reduceLT, Int.reduceLE, Int.reduceNeg, Int.reduceAdd, Int.reduceSub, Int.reduceMul, Try.f3, kr3, kp3_30, ow3_30, ty3, ty4, ty23, ty28, ty30, ty37, ty42, ty43, tb4, g1, c_Awake22, true_or]
  by_cases g2 : 400 < n
  · refine lim_run (fn := Try.f3) fn3 rfl body3 (Nat.le_of_ble_eq_true rfl) ok3 ?_
    simp (config := { maxSteps := 1000000 }) (disch := omega) only [push_cast, ↓reduceIte, Nat.reduceEqDiff, Nat.reduceAdd, Nat.reduceLT, Nat.reduceLeDiff, Nat.reduceBEq, Nat.reduceMul, Nat.reduceSub, Int.reduceToNat, Int.reduceEq, Int.reduceLT, Int.reduceLE, Int.reduceNeg, Int.reduceAdd, Int.reduceSub, Int.reduceMul, Try.f3, kr3, kp3_30, ow3_30, ty3, ty4, ty23, ty28, ty30, ty37, ty42, ty43, tb4, g1, g2, c_Awake22]
  by_cases g3 : a < -500
  · refine lim_run (fn := Try.f3) fn3 rfl body3 (Nat.le_of_ble_eq_true rfl) ok3 ?_
    simp (config := { maxSteps := 1000000 }) (disch := omega) only [push_cast, ↓reduceIte, Nat.reduceEqDiff, Nat.reduceAdd, Nat.reduceLT, Nat.reduceLeDiff, Nat.reduceBEq, Nat.reduceMul, Nat.reduceSub, Int.reduceToNat, Int.reduceEq, Int.reduceLT, Int.reduceLE, Int.reduceNeg, Int.reduceAdd, Int.reduceSub, Int.reduceMul, Try.f3, kr3, kp3_30, ow3_30, ty3, ty4, ty23, ty28, ty30, ty37, ty42, ty43, tb4, g1, g2, g3, c_Awake22]
  by_cases g4 : 500 < a
  · refine lim_run (fn := Try.f3) fn3 rfl body3 (Nat.le_of_ble_eq_true rfl) ok3 ?_
    simp (config := { maxSteps := 1000000 }) (disch := omega) only [push_cast, ↓reduceIte, Nat.reduceEqDiff, Nat.reduceAdd, Nat.reduceLT, Nat.reduceLeDiff, Nat.reduceBEq, Nat.reduceMul, Nat.reduceSub, Int.reduceToNat, Int.reduceEq, Int.reduceLT, Int.reduceLE, Int.reduceNeg, Int.reduceAdd, Int.reduceSub, Int.reduceMul, Try.f3, kr3, kp3_30, ow3_30, ty3, ty4, ty23, ty28, ty30, ty37, ty42, ty43, tb4, g1, g2, g3, g4, c_Awake22]
  by_cases g5 : b < -1000
  · refine lim_run (fn := Try.f3) fn3 rfl body3 (Nat.le_of_ble_eq_true rfl) ok3 ?_
    simp (config := { maxSteps := 1000000 }) (disch := omega) only [push_cast, ↓reduceIte, Nat.reduceEqDiff, Nat.reduceAdd, Nat.reduceLT, Nat.reduceLeDiff, Nat.reduceBEq, Nat.reduceMul, Nat.reduceSub, Int.reduceToNat, Int.reduceEq, Int.reduceLT, Int.reduceLE, Int.reduceNeg, Int.reduceAdd, Int.reduceSub, Int.reduceMul, Try.f3, kr3, kp3_30, ow3_30, ty3, ty4, ty23, ty28, ty30, ty37, ty42, ty43, tb4, g1, g2, g3, g4, g5, c_Awake22]
  by_cases g6 : 1000 < b
  · refine lim_run (fn := Try.f3) fn3 rfl body3 (Nat.le_of_ble_eq_true rfl) ok3 ?_
    simp (config := { maxSteps := 1000000 }) (disch := omega) only [push_cast, ↓reduceIte, Nat.reduceEqDiff, Nat.reduceAdd, Nat.reduceLT, Nat.reduceLeDiff, Nat.reduceBEq, Nat.reduceMul, Nat.reduceSub, Int.reduceToNat, Int.reduceEq, Int.reduceLT, Int.reduceLE, Int.reduceNeg, Int.reduceAdd, Int.reduceSub, Int.reduceMul, Try.f3, kr3, kp3_30, ow3_30, ty3, ty4, ty23, ty28, ty30, ty37, ty42, ty43, tb4, g1, g2, g3, g4, g5, g6, c_Awake22]
  by_cases g7 : lo < -1000
  · refine lim_run (fn := Try.f3) fn3 rfl body3 (Nat.le_of_ble_eq_true rfl) ok3 ?_
    simp (config := { maxSteps := 1000000 }) (disch := omega) only [push_cast, ↓reduceIte, Nat.reduceEqDiff, Nat.reduceAdd, Nat.reduceLT, Nat.reduceLeDiff, Nat.reduceBEq, Nat.reduceMul, Nat.reduceSub, Int.reduceToNat, Int.reduceEq, Int.reduceLT, Int.reduceLE, Int.reduceNeg, Int.reduceAdd, Int.reduceSub, Int.reduceMul, Try.f3, kr3, kp3_30, ow3_30, ty3, ty4, ty23, ty28, ty30, ty37, ty42, ty43, tb4, g1, g2, g3, g4, g5, g6, g7, c_Awake22]
  by_cases g8 : 1000 < lo
  · refine lim_run (fn := Try.f3) fn3 rfl body3 (Nat.le_of_ble_eq_true rfl) ok3 ?_
    simp (config := { maxSteps := 1000000 }) (disch := omega) only [push_cast, ↓reduceIte, Nat.reduceEqDiff, Nat.reduceAdd, Nat.reduceLT, Nat.reduceLeDiff, Nat.reduceBEq, Nat.reduceMul, Nat.reduceSub, Int.reduceToNat, Int.reduceEq, Int.reduceLT, Int.reduceLE, Int.reduceNeg, Int.reduceAdd, Int.reduceSub, Int.reduceMul, Try.f3, kr3, kp3_30, ow3_30, ty3, ty4, ty23, ty28, ty30, ty37, ty42, ty43, tb4, g1, g2, g3, g4, g5, g6, g7, g8, c_Awake22]
  by_cases g9 : hi < -1000
  · refine lim_run (fn := Try.f3) fn3 rfl body3 (Nat.le_of_ble_eq_true rfl) ok3 ?_
    simp (config := { maxSteps := 1000000 }) (disch := omega) only [push_cast, ↓reduceIte, Nat.reduceEqDiff, Nat.reduceAdd, Nat.reduceLT, Nat.reduceLeDiff, Nat.reduceBEq, Nat.reduceMul, Nat.reduceSub, Int.reduceToNat, Int.reduceEq, Int.reduceLT, Int.reduceLE, Int.reduceNeg, Int.reduceAdd, Int.reduceSub, Int.reduceMul, Try.f3, kr3, kp3_30, ow3_30, ty3, ty4, ty23, ty28, ty30, ty37, ty42, ty43, tb4, g1, g2, g3, g4, g5, g6, g7, g8, g9, c_Awake22]
  by_cases g10 : 1000 < hi
  · refine lim_run (fn := Try.f3) fn3 rfl body3 (Nat.le_of_ble_eq_true rfl) ok3 ?_
    simp (config := { maxSteps := 1000000 }) (disch := omega) only [push_cast, ↓reduceIte, Nat.reduceEqDiff, Nat.reduceAdd, Nat.reduceLT, Nat.reduceLeDiff, Nat.reduceBEq, Nat.reduceMul, Nat.reduceSub, Int.reduceToNat, Int.reduceEq, Int.reduceLT, Int.reduceLE, Int.reduceNeg, Int.reduceAdd, Int.reduceSub, Int.reduceMul, Try.f3, kr3, kp3_30, ow3_30, ty3, ty4, ty23, ty28, ty30, ty37, ty42, ty43, tb4, g1, g2, g3, g4, g5, g6, g7, g8, g9, g10, c_Awake22]
  by_cases g11 : st < -1000
  · refine lim_run (fn := Try.f3) fn3 rfl body3 (Nat.le_of_ble_eq_true rfl) ok3 ?_
    simp (config := { maxSteps := 1000000 }) (disch := omega) only [push_cast, ↓reduceIte, Nat.reduceEqDiff, Nat.reduceAdd, Nat.reduceLT, Nat.reduceLeDiff, Nat.reduceBEq, Nat.reduceMul, Nat.reduceSub, Int.reduceToNat, Int.reduceEq, Int.reduceLT, Int.reduceLE, Int.reduceNeg, Int.reduceAdd, Int.reduceSub, Int.reduceMul, Try.f3, kr3, kp3_30, ow3_30, ty3, ty4, ty23, ty28, ty30, ty37, ty42, ty43, tb4, g1, g2, g3, g4, g5, g6, g7, g8, g9, g10, g11, c_Awake22]
  by_cases g12 : 1000 < st
  · refine lim_run (fn := Try.f3) fn3 rfl body3 (Nat.le_of_ble_eq_true rfl) ok3 ?_
    simp (config := { maxSteps := 1000000 }) (disch := omega) only [push_cast, ↓reduceIte, Nat.reduceEqDiff, Nat.reduceAdd, Nat.reduceLT, Nat.reduceLeDiff, Nat.reduceBEq, Nat.reduceMul, Nat.reduceSub, Int.reduceToNat, Int.reduceEq, Int.reduceLT, Int.reduceLE, Int.reduceNeg, Int.reduceAdd, Int.reduceSub, Int.reduceMul, Try.f3, kr3, kp3_30, ow3_30, ty3, ty4, ty23, ty28, ty30, ty37, ty42, ty43, tb4, g1, g2, g3, g4, g5, g6, g7, g8, g9, g10, g11, g12, c_Awake22]
  by_cases h7 : st = 0
  · refine lim_run (fn := Try.f3) fn3 rfl body3 (Nat.le_of_ble_eq_true rfl) ok3 ?_
    simp (config := { maxSteps := 1000000 }) (disch := omega) only [push_cast, ↓reduceIte, Nat.reduceEqDiff, Nat.reduceAdd, Nat.reduceLT, Nat.reduceLeDiff, Nat.reduceBEq, Nat.reduceMul, Nat.reduceSub, Int.reduceToNat, Int.reduceEq, Int.reduceLT, Int.reduceLE, Int.reduceNeg, Int.reduceAdd, Int.reduceSub, Int.reduceMul, Try.f3, kr3, kp3_30, ow3_30, ty3, ty4, ty23, ty28, ty30, ty37, ty42, ty43, tb4, g1, g2, g3, g4, g5, g6, g7, g8, g9, g10, g11, g12, h7, c_Awake22]
  have n1 : near lo := by unfold near; omega
  have n2 : near hi := by unfold near; omega
  have n3 : near st := by unfold near; omega
  have hT : okT lo hi st := okT_near h7 n1 n2 n3
  have c1 := c_Count lo hi st
  rw [if_pos hT, if_pos hT] at c1
  have hn := cnt_near h7 n1 n2
  by_cases g13 : 400 < cnt lo hi st
  · refine lim_run (fn := Try.f3) fn3 rfl body3 (Nat.le_of_ble_eq_true rfl) ok3 ?_
    simp (config := { maxSteps := 1000000 }) (disch := omega) only [push_cast, ↓reduceIte, Nat.reduceEqDiff, Nat.reduceAdd, Nat.reduceLT, Nat.reduceLeDiff, Nat.reduceBEq, Nat.reduceMul, Nat.reduceSub, Int.reduceToNat, Int.reduceEq, Int.reduceLT, Int.reduceLE, Int.reduceNeg, Int.reduceAdd, Int.reduceSub, Int.reduceMul, Try.f3, kr3, kp3_30, ow3_30, ty3, ty4, ty23, ty28, ty30, ty37, ty42, ty43, tb4, g1, g2, g3, g4, g5, g6, g7, g8, g9, g10, g11, g12, h7, c1, g13, c_Awake22, ne_eq]
  by_cases g14 : cnt lo hi st = 0
  · refine lim_run (fn := Try.f3) fn3 rfl body3 (Nat.le_of_ble_eq_true rfl) ok3 ?_
    simp (config := { maxSteps := 1000000 }) (disch := omega) only [push_cast, ↓reduceIte, Nat.reduceEqDiff, Nat.reduceAdd, Nat.reduceLT, Nat.reduceLeDiff, Nat.reduceBEq, Nat.reduceMul, Nat.reduceSub, Int.reduceToNat, Int.reduceEq, Int.reduceLT, Int.reduceLE, Int.reduceNeg, Int.reduceAdd, Int.reduceSub, Int.reduceMul, Try.f3, kr3, kp3_30, ow3_30, ty3, ty4, ty23, ty28, ty30, ty37, ty42, ty43, tb4, g1, g2, g3, g4, g5, g6, g7, g8, g9, g10, g11, g12, h7, c1, g13, g14, c_Awake22, ne_eq]
  exact TopGuards_in a b lo hi st n ⟨by omega, by omega⟩ ⟨by omega, by omega⟩ ⟨by omega, by omega⟩ ⟨by omega, by omega⟩ ⟨by omega, by omega⟩ ⟨by omega, by omega⟩ h7 ⟨by omega, by omega⟩
end
theorem TopGuards_true (a b : Int) (t : Int × Int × Int) (n : Int) (ha : -9223372036854775808 ≤ a ∧ a ≤ 9223372036854775807) (hb : -9223372036854775808 ≤ b ∧ b ≤ 9223372036854775807)
    (ht : (-9223372036854775808 ≤ t.1 ∧ t.1 ≤ 9223372036854775807) ∧ (-9223372036854775808 ≤ t.2.1 ∧ t.2.1 ≤ 9223372036854775807) ∧ (-9223372036854775808 ≤ t.2.2 ∧ t.2.2 ≤ 9223372036854775807)) (hn : -9223372036854775808 ≤ n ∧ n ≤ 9223372036854775807) :
    CALL 3 [I a, I b, .agg [I t.1, I t.2.1, I t.2.2], I n] = some (B true, []) := TopGuards_true' a b t.1 t.2.1 t.2.2 n
end Go.Proofs.Ytnbijiopcgfmfaa.Tev
