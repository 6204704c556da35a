/- Part 9: CFlc. -/
import Derived.Test.YtnbijiopcgfmfaaGreatP08
/- Rounding. -/
namespace Go.Proofs.YtnbijiopcgfmfaaGreat.Tev
open Go Go.RowKit Go.Proofs Go.Proofs.YtnbijiopcgfmfaaGreat.Q
set_option linter.unusedSectionVars false
set_option maxRecDepth 100000
set_option maxHeartbeats 0
set_option linter.unusedSimpArgs false
set_option linter.unusedVariables false
theorem f_round {p w : Int} (hs : okS p w) (s hi lo e : Int) (more : Bool) (he : -20000 ≤ e ∧ e ≤ 20000) : ∃ o f, CALL 96 [Shp p w, I 0, I s, Exa hi lo e more] = some (.tup [I o, I f], []) := by
  obtain ⟨L, l0, l1, hl⟩ := f_long hi lo e more
  have hle := f_least hs
  have hb := f_bias hs
  have ht := f_top hs
  have hp := f_packN hs
  obtain ⟨gi, hi'⟩ := f_inf hs s
  have hL : leastQ w = -149 ∨ leastQ w = -1074 := by unfold leastQ; split <;> simp
  have hB : biasQ w = 127 ∨ biasQ w = 1023 := by unfold biasQ; split <;> simp
  have hT : topQ w = 255 ∨ topQ w = 2047 := by unfold topQ; split <;> simp
  have hP : p = 24 ∨ p = 53 := by rcases hs with ⟨h, _⟩ | ⟨h, _⟩ <;> simp [h]
  generalize leastQ w = le at *
  generalize biasQ w = bi at *
  generalize topQ w = tp at *
  obtain ⟨last, hlast⟩ : ∃ last, last = max (e + L - 1 - p + 1) le := ⟨_, rfl⟩
  have hmx := hlast.symm
  have hlb : -30000 ≤ last ∧ last ≤ 30000 := by omega
  have wtp : IntKind.i64.wrap tp = tp := i64_wrap (by omega) (by omega)
  have hmx' : mx (e + L - 1 - p + 1) le = last := by unfold mx; rw [hlast]; split <;> omega
  by_cases c1 : last ≤ e
  · obtain ⟨aw, ha⟩ := f_away s (decide (andK .u64 (shlK .u64 lo (e - last)) 1 = 1)) 0
    by_cases c3 : e + L - 1 < le + p - 1
    · cases aw
      · by_cases c5 : (shlK .u64 lo (e - last)) = shlK .u64 1 p
        · by_cases c6 : (shrK .u64 (shlK .u64 lo (e - last)) 1) < shlK .u64 1 (p - 1)
          · refine ⟨?_, ?_, ?_⟩
            rotate_left 2
            · refine lim_run (fn := Tryz.f96) fn96 rfl body96 (Nat.le_of_ble_eq_true rfl) ok96 ?_
              simp (config := { maxSteps := 1000000 }) (disch := omega) only [push_cast, ↓reduceIte, Nat.reduceEqDiff, Nat.reduceAdd, Nat.reduceLT, Nat.reduceLeDiff, Nat.reduceBEq, Nat.reduceMul, Nat.reduceSub, Int.reduceToNat, Int.reduceEq, Int.reduceLT, Int.reduceLE, Int.reduceNeg, Int.reduceAdd, Int.reduceSub, Int.reduceMul, Tryz.f96, kr96, ty3, ty4, ty83, ty86, ty120, tb4, hl, hle, hb, ht, hp, hi', hmx, hmx', bin_shl, bin_shr, bin_and, bin_or, cv_iu, cv_ui, ha, wtp, c1, c3, eq_true c5, c6]
              rfl
          · by_cases c7 : last + 1 + p - 1 + bi < tp
            · refine ⟨?_, ?_, ?_⟩
              rotate_left 2
              · refine lim_run (fn := Tryz.f96) fn96 rfl body96 (Nat.le_of_ble_eq_true rfl) ok96 ?_
                simp (config := { maxSteps := 1000000 }) (disch := omega) only [push_cast, ↓reduceIte, Nat.reduceEqDiff, Nat.reduceAdd, Nat.reduceLT, Nat.reduceLeDiff, Nat.reduceBEq, Nat.reduceMul, Nat.reduceSub, Int.reduceToNat, Int.reduceEq, Int.reduceLT, Int.reduceLE, Int.reduceNeg, Int.reduceAdd, Int.reduceSub, Int.reduceMul, Tryz.f96, kr96, ty3, ty4, ty83, ty86, ty120, tb4, hl, hle, hb, ht, hp, hi', hmx, hmx', bin_shl, bin_shr, bin_and, bin_or, cv_iu, cv_ui, ha, wtp, c1, c3, eq_true c5, c6, c7]
                rfl
            · refine ⟨?_, ?_, ?_⟩
              rotate_left 2
              · refine lim_run (fn := Tryz.f96) fn96 rfl body96 (Nat.le_of_ble_eq_true rfl) ok96 ?_
                simp (config := { maxSteps := 1000000 }) (disch := omega) only [push_cast, ↓reduceIte, Nat.reduceEqDiff, Nat.reduceAdd, Nat.reduceLT, Nat.reduceLeDiff, Nat.reduceBEq, Nat.reduceMul, Nat.reduceSub, Int.reduceToNat, Int.reduceEq, Int.reduceLT, Int.reduceLE, Int.reduceNeg, Int.reduceAdd, Int.reduceSub, Int.reduceMul, Tryz.f96, kr96, ty3, ty4, ty83, ty86, ty120, tb4, hl, hle, hb, ht, hp, hi', hmx, hmx', bin_shl, bin_shr, bin_and, bin_or, cv_iu, cv_ui, ha, wtp, c1, c3, eq_true c5, c6, c7]
                rfl
        · by_cases c6 : (shlK .u64 lo (e - last)) < shlK .u64 1 (p - 1)
          · refine ⟨?_, ?_, ?_⟩
            rotate_left 2
            · refine lim_run (fn := Tryz.f96) fn96 rfl body96 (Nat.le_of_ble_eq_true rfl) ok96 ?_
              simp (config := { maxSteps := 1000000 }) (disch := omega) only [push_cast, ↓reduceIte, Nat.reduceEqDiff, Nat.reduceAdd, Nat.reduceLT, Nat.reduceLeDiff, Nat.reduceBEq, Nat.reduceMul, Nat.reduceSub, Int.reduceToNat, Int.reduceEq, Int.reduceLT, Int.reduceLE, Int.reduceNeg, Int.reduceAdd, Int.reduceSub, Int.reduceMul, Tryz.f96, kr96, ty3, ty4, ty83, ty86, ty120, tb4, hl, hle, hb, ht, hp, hi', hmx, hmx', bin_shl, bin_shr, bin_and, bin_or, cv_iu, cv_ui, ha, wtp, c1, c3, c5, c6]
              rfl
          · by_cases c7 : last + p - 1 + bi < tp
            · refine ⟨?_, ?_, ?_⟩
              rotate_left 2
              · refine lim_run (fn := Tryz.f96) fn96 rfl body96 (Nat.le_of_ble_eq_true rfl) ok96 ?_
                simp (config := { maxSteps := 1000000 }) (disch := omega) only [push_cast, ↓reduceIte, Nat.reduceEqDiff, Nat.reduceAdd, Nat.reduceLT, Nat.reduceLeDiff, Nat.reduceBEq, Nat.reduceMul, Nat.reduceSub, Int.reduceToNat, Int.reduceEq, Int.reduceLT, Int.reduceLE, Int.reduceNeg, Int.reduceAdd, Int.reduceSub, Int.reduceMul, Tryz.f96, kr96, ty3, ty4, ty83, ty86, ty120, tb4, hl, hle, hb, ht, hp, hi', hmx, hmx', bin_shl, bin_shr, bin_and, bin_or, cv_iu, cv_ui, ha, wtp, c1, c3, c5, c6, c7]
                rfl
            · refine ⟨?_, ?_, ?_⟩
              rotate_left 2
              · refine lim_run (fn := Tryz.f96) fn96 rfl body96 (Nat.le_of_ble_eq_true rfl) ok96 ?_
                simp (config := { maxSteps := 1000000 }) (disch := omega) only [push_cast, ↓reduceIte, Nat.reduceEqDiff, Nat.reduceAdd, Nat.reduceLT, Nat.reduceLeDiff, Nat.reduceBEq, Nat.reduceMul, Nat.reduceSub, Int.reduceToNat, Int.reduceEq, Int.reduceLT, Int.reduceLE, Int.reduceNeg, Int.reduceAdd, Int.reduceSub, Int.reduceMul, Tryz.f96, kr96, ty3, ty4, ty83, ty86, ty120, tb4, hl, hle, hb, ht, hp, hi', hmx, hmx', bin_shl, bin_shr, bin_and, bin_or, cv_iu, cv_ui, ha, wtp, c1, c3, c5, c6, c7]
                rfl
      · by_cases c5 : (IntKind.u64.wrap ((shlK .u64 lo (e - last)) + 1)) = shlK .u64 1 p
        · by_cases c6 : (shrK .u64 (IntKind.u64.wrap ((shlK .u64 lo (e - last)) + 1)) 1) < shlK .u64 1 (p - 1)
          · refine ⟨?_, ?_, ?_⟩
            rotate_left 2
            · refine lim_run (fn := Tryz.f96) fn96 rfl body96 (Nat.le_of_ble_eq_true rfl) ok96 ?_
              simp (config := { maxSteps := 1000000 }) (disch := omega) only [push_cast, ↓reduceIte, Nat.reduceEqDiff, Nat.reduceAdd, Nat.reduceLT, Nat.reduceLeDiff, Nat.reduceBEq, Nat.reduceMul, Nat.reduceSub, Int.reduceToNat, Int.reduceEq, Int.reduceLT, Int.reduceLE, Int.reduceNeg, Int.reduceAdd, Int.reduceSub, Int.reduceMul, Tryz.f96, kr96, ty3, ty4, ty83, ty86, ty120, tb4, hl, hle, hb, ht, hp, hi', hmx, hmx', bin_shl, bin_shr, bin_and, bin_or, cv_iu, cv_ui, ha, wtp, c1, c3, eq_true c5, c6]
              rfl
          · by_cases c7 : last + 1 + p - 1 + bi < tp
            · refine ⟨?_, ?_, ?_⟩
              rotate_left 2
              · refine lim_run (fn := Tryz.f96) fn96 rfl body96 (Nat.le_of_ble_eq_true rfl) ok96 ?_
                simp (config := { maxSteps := 1000000 }) (disch := omega) only [push_cast, ↓reduceIte, Nat.reduceEqDiff, Nat.reduceAdd, Nat.reduceLT, Nat.reduceLeDiff, Nat.reduceBEq, Nat.reduceMul, Nat.reduceSub, Int.reduceToNat, Int.reduceEq, Int.reduceLT, Int.reduceLE, Int.reduceNeg, Int.reduceAdd, Int.reduceSub, Int.reduceMul, Tryz.f96, kr96, ty3, ty4, ty83, ty86, ty120, tb4, hl, hle, hb, ht, hp, hi', hmx, hmx', bin_shl, bin_shr, bin_and, bin_or, cv_iu, cv_ui, ha, wtp, c1, c3, eq_true c5, c6, c7]
                rfl
            · refine ⟨?_, ?_, ?_⟩
              rotate_left 2
              · refine lim_run (fn := Tryz.f96) fn96 rfl body96 (Nat.le_of_ble_eq_true rfl) ok96 ?_
                simp (config := { maxSteps := 1000000 }) (disch := omega) only [push_cast, ↓reduceIte, Nat.reduceEqDiff, Nat.reduceAdd, Nat.reduceLT, Nat.reduceLeDiff, Nat.reduceBEq, Nat.reduceMul, Nat.reduceSub, Int.reduceToNat, Int.reduceEq, Int.reduceLT, Int.reduceLE, Int.reduceNeg, Int.reduceAdd, Int.reduceSub, Int.reduceMul, Tryz.f96, kr96, ty3, ty4, ty83, ty86, ty120, tb4, hl, hle, hb, ht, hp, hi', hmx, hmx', bin_shl, bin_shr, bin_and, bin_or, cv_iu, cv_ui, ha, wtp, c1, c3, eq_true c5, c6, c7]
                rfl
        · by_cases c6 : (IntKind.u64.wrap ((shlK .u64 lo (e - last)) + 1)) < shlK .u64 1 (p - 1)
          · refine ⟨?_, ?_, ?_⟩
            rotate_left 2
            · refine lim_run (fn := Tryz.f96) fn96 rfl body96 (Nat.le_of_ble_eq_true rfl) ok96 ?_
              simp (config := { maxSteps := 1000000 }) (disch := omega) only [push_cast, ↓reduceIte, Nat.reduceEqDiff, Nat.reduceAdd, Nat.reduceLT, Nat.reduceLeDiff, Nat.reduceBEq, Nat.reduceMul, Nat.reduceSub, Int.reduceToNat, Int.reduceEq, Int.reduceLT, Int.reduceLE, Int.reduceNeg, Int.reduceAdd, Int.reduceSub, Int.reduceMul, Tryz.f96, kr96, ty3, ty4, ty83, ty86, ty120, tb4, hl, hle, hb, ht, hp, hi', hmx, hmx', bin_shl, bin_shr, bin_and, bin_or, cv_iu, cv_ui, ha, wtp, c1, c3, c5, c6]
              rfl
          · by_cases c7 : last + p - 1 + bi < tp
            · refine ⟨?_, ?_, ?_⟩
              rotate_left 2
              · refine lim_run (fn := Tryz.f96) fn96 rfl body96 (Nat.le_of_ble_eq_true rfl) ok96 ?_
                simp (config := { maxSteps := 1000000 }) (disch := omega) only [push_cast, ↓reduceIte, Nat.reduceEqDiff, Nat.reduceAdd, Nat.reduceLT, Nat.reduceLeDiff, Nat.reduceBEq, Nat.reduceMul, Nat.reduceSub, Int.reduceToNat, Int.reduceEq, Int.reduceLT, Int.reduceLE, Int.reduceNeg, Int.reduceAdd, Int.reduceSub, Int.reduceMul, Tryz.f96, kr96, ty3, ty4, ty83, ty86, ty120, tb4, hl, hle, hb, ht, hp, hi', hmx, hmx', bin_shl, bin_shr, bin_and, bin_or, cv_iu, cv_ui, ha, wtp, c1, c3, c5, c6, c7]
                rfl
            · refine ⟨?_, ?_, ?_⟩
              rotate_left 2
              · refine lim_run (fn := Tryz.f96) fn96 rfl body96 (Nat.le_of_ble_eq_true rfl) ok96 ?_
                simp (config := { maxSteps := 1000000 }) (disch := omega) only [push_cast, ↓reduceIte, Nat.reduceEqDiff, Nat.reduceAdd, Nat.reduceLT, Nat.reduceLeDiff, Nat.reduceBEq, Nat.reduceMul, Nat.reduceSub, Int.reduceToNat, Int.reduceEq, Int.reduceLT, Int.reduceLE, Int.reduceNeg, Int.reduceAdd, Int.reduceSub, Int.reduceMul, Tryz.f96, kr96, ty3, ty4, ty83, ty86, ty120, tb4, hl, hle, hb, ht, hp, hi', hmx, hmx', bin_shl, bin_shr, bin_and, bin_or, cv_iu, cv_ui, ha, wtp, c1, c3, c5, c6, c7]
                rfl
    · cases aw
      · by_cases c5 : (shlK .u64 lo (e - last)) = shlK .u64 1 p
        · by_cases c6 : (shrK .u64 (shlK .u64 lo (e - last)) 1) < shlK .u64 1 (p - 1)
          · refine ⟨?_, ?_, ?_⟩
            rotate_left 2
            · refine lim_run (fn := Tryz.f96) fn96 rfl body96 (Nat.le_of_ble_eq_true rfl) ok96 ?_
              simp (config := { maxSteps := 1000000 }) (disch := omega) only [push_cast, ↓reduceIte, Nat.reduceEqDiff, Nat.reduceAdd, Nat.reduceLT, Nat.reduceLeDiff, Nat.reduceBEq, Nat.reduceMul, Nat.reduceSub, Int.reduceToNat, Int.reduceEq, Int.reduceLT, Int.reduceLE, Int.reduceNeg, Int.reduceAdd, Int.reduceSub, Int.reduceMul, Tryz.f96, kr96, ty3, ty4, ty83, ty86, ty120, tb4, hl, hle, hb, ht, hp, hi', hmx, hmx', bin_shl, bin_shr, bin_and, bin_or, cv_iu, cv_ui, ha, wtp, c1, c3, eq_true c5, c6]
              rfl
          · by_cases c7 : last + 1 + p - 1 + bi < tp
            · refine ⟨?_, ?_, ?_⟩
              rotate_left 2
              · refine lim_run (fn := Tryz.f96) fn96 rfl body96 (Nat.le_of_ble_eq_true rfl) ok96 ?_
                simp (config := { maxSteps := 1000000 }) (disch := omega) only [push_cast, ↓reduceIte, Nat.reduceEqDiff, Nat.reduceAdd, Nat.reduceLT, Nat.reduceLeDiff, Nat.reduceBEq, Nat.reduceMul, Nat.reduceSub, Int.reduceToNat, Int.reduceEq, Int.reduceLT, Int.reduceLE, Int.reduceNeg, Int.reduceAdd, Int.reduceSub, Int.reduceMul, Tryz.f96, kr96, ty3, ty4, ty83, ty86, ty120, tb4, hl, hle, hb, ht, hp, hi', hmx, hmx', bin_shl, bin_shr, bin_and, bin_or, cv_iu, cv_ui, ha, wtp, c1, c3, eq_true c5, c6, c7]
                rfl
            · refine ⟨?_, ?_, ?_⟩
              rotate_left 2
              · refine lim_run (fn := Tryz.f96) fn96 rfl body96 (Nat.le_of_ble_eq_true rfl) ok96 ?_
                simp (config := { maxSteps := 1000000 }) (disch := omega) only [push_cast, ↓reduceIte, Nat.reduceEqDiff, Nat.reduceAdd, Nat.reduceLT, Nat.reduceLeDiff, Nat.reduceBEq, Nat.reduceMul, Nat.reduceSub, Int.reduceToNat, Int.reduceEq, Int.reduceLT, Int.reduceLE, Int.reduceNeg, Int.reduceAdd, Int.reduceSub, Int.reduceMul, Tryz.f96, kr96, ty3, ty4, ty83, ty86, ty120, tb4, hl, hle, hb, ht, hp, hi', hmx, hmx', bin_shl, bin_shr, bin_and, bin_or, cv_iu, cv_ui, ha, wtp, c1, c3, eq_true c5, c6, c7]
                rfl
        · by_cases c6 : (shlK .u64 lo (e - last)) < shlK .u64 1 (p - 1)
          · refine ⟨?_, ?_, ?_⟩
            rotate_left 2
            · refine lim_run (fn := Tryz.f96) fn96 rfl body96 (Nat.le_of_ble_eq_true rfl) ok96 ?_
              simp (config := { maxSteps := 1000000 }) (disch := omega) only [push_cast, ↓reduceIte, Nat.reduceEqDiff, Nat.reduceAdd, Nat.reduceLT, Nat.reduceLeDiff, Nat.reduceBEq, Nat.reduceMul, Nat.reduceSub, Int.reduceToNat, Int.reduceEq, Int.reduceLT, Int.reduceLE, Int.reduceNeg, Int.reduceAdd, Int.reduceSub, Int.reduceMul, Tryz.f96, kr96, ty3, ty4, ty83, ty86, ty120, tb4, hl, hle, hb, ht, hp, hi', hmx, hmx', bin_shl, bin_shr, bin_and, bin_or, cv_iu, cv_ui, ha, wtp, c1, c3, c5, c6]
              rfl
          · by_cases c7 : last + p - 1 + bi < tp
            · refine ⟨?_, ?_, ?_⟩
              rotate_left 2
              · refine lim_run (fn := Tryz.f96) fn96 rfl body96 (Nat.le_of_ble_eq_true rfl) ok96 ?_
                simp (config := { maxSteps := 1000000 }) (disch := omega) only [push_cast, ↓reduceIte, Nat.reduceEqDiff, Nat.reduceAdd, Nat.reduceLT, Nat.reduceLeDiff, Nat.reduceBEq, Nat.reduceMul, Nat.reduceSub, Int.reduceToNat, Int.reduceEq, Int.reduceLT, Int.reduceLE, Int.reduceNeg, Int.reduceAdd, Int.reduceSub, Int.reduceMul, Tryz.f96, kr96, ty3, ty4, ty83, ty86, ty120, tb4, hl, hle, hb, ht, hp, hi', hmx, hmx', bin_shl, bin_shr, bin_and, bin_or, cv_iu, cv_ui, ha, wtp, c1, c3, c5, c6, c7]
                rfl
            · refine ⟨?_, ?_, ?_⟩
              rotate_left 2
              · refine lim_run (fn := Tryz.f96) fn96 rfl body96 (Nat.le_of_ble_eq_true rfl) ok96 ?_
                simp (config := { maxSteps := 1000000 }) (disch := omega) only [push_cast, ↓reduceIte, Nat.reduceEqDiff, Nat.reduceAdd, Nat.reduceLT, Nat.reduceLeDiff, Nat.reduceBEq, Nat.reduceMul, Nat.reduceSub, Int.reduceToNat, Int.reduceEq, Int.reduceLT, Int.reduceLE, Int.reduceNeg, Int.reduceAdd, Int.reduceSub, Int.reduceMul, Tryz.f96, kr96, ty3, ty4, ty83, ty86, ty120, tb4, hl, hle, hb, ht, hp, hi', hmx, hmx', bin_shl, bin_shr, bin_and, bin_or, cv_iu, cv_ui, ha, wtp, c1, c3, c5, c6, c7]
                rfl
      · by_cases c5 : (IntKind.u64.wrap ((shlK .u64 lo (e - last)) + 1)) = shlK .u64 1 p
        · by_cases c6 : (shrK .u64 (IntKind.u64.wrap ((shlK .u64 lo (e - last)) + 1)) 1) < shlK .u64 1 (p - 1)
          · refine ⟨?_, ?_, ?_⟩
            rotate_left 2
            · refine lim_run (fn := Tryz.f96) fn96 rfl body96 (Nat.le_of_ble_eq_true rfl) ok96 ?_
              simp (config := { maxSteps := 1000000 }) (disch := omega) only [push_cast, ↓reduceIte, Nat.reduceEqDiff, Nat.reduceAdd, Nat.reduceLT, Nat.reduceLeDiff, Nat.reduceBEq, Nat.reduceMul, Nat.reduceSub, Int.reduceToNat, Int.reduceEq, Int.reduceLT, Int.reduceLE, Int.reduceNeg, Int.reduceAdd, Int.reduceSub, Int.reduceMul, Tryz.f96, kr96, ty3, ty4, ty83, ty86, ty120, tb4, hl, hle, hb, ht, hp, hi', hmx, hmx', bin_shl, bin_shr, bin_and, bin_or, cv_iu, cv_ui, ha, wtp, c1, c3, eq_true c5, c6]
              rfl
          · by_cases c7 : last + 1 + p - 1 + bi < tp
            · refine ⟨?_, ?_, ?_⟩
              rotate_left 2
              · refine lim_run (fn := Tryz.f96) fn96 rfl body96 (Nat.le_of_ble_eq_true rfl) ok96 ?_
                simp (config := { maxSteps := 1000000 }) (disch := omega) only [push_cast, ↓reduceIte, Nat.reduceEqDiff, Nat.reduceAdd, Nat.reduceLT, Nat.reduceLeDiff, Nat.reduceBEq, Nat.reduceMul, Nat.reduceSub, Int.reduceToNat, Int.reduceEq, Int.reduceLT, Int.reduceLE, Int.reduceNeg, Int.reduceAdd, Int.reduceSub, Int.reduceMul, Tryz.f96, kr96, ty3, ty4, ty83, ty86, ty120, tb4, hl, hle, hb, ht, hp, hi', hmx, hmx', bin_shl, bin_shr, bin_and, bin_or, cv_iu, cv_ui, ha, wtp, c1, c3, eq_true c5, c6, c7]
                rfl
            · refine ⟨?_, ?_, ?_⟩
              rotate_left 2
              · refine lim_run (fn := Tryz.f96) fn96 rfl body96 (Nat.le_of_ble_eq_true rfl) ok96 ?_
                simp (config := { maxSteps := 1000000 }) (disch := omega) only [push_cast, ↓reduceIte, Nat.reduceEqDiff, Nat.reduceAdd, Nat.reduceLT, Nat.reduceLeDiff, Nat.reduceBEq, Nat.reduceMul, Nat.reduceSub, Int.reduceToNat, Int.reduceEq, Int.reduceLT, Int.reduceLE, Int.reduceNeg, Int.reduceAdd, Int.reduceSub, Int.reduceMul, Tryz.f96, kr96, ty3, ty4, ty83, ty86, ty120, tb4, hl, hle, hb, ht, hp, hi', hmx, hmx', bin_shl, bin_shr, bin_and, bin_or, cv_iu, cv_ui, ha, wtp, c1, c3, eq_true c5, c6, c7]
                rfl
        · by_cases c6 : (IntKind.u64.wrap ((shlK .u64 lo (e - last)) + 1)) < shlK .u64 1 (p - 1)
          · refine ⟨?_, ?_, ?_⟩
            rotate_left 2
            · refine lim_run (fn := Tryz.f96) fn96 rfl body96 (Nat.le_of_ble_eq_true rfl) ok96 ?_
              simp (config := { maxSteps := 1000000 }) (disch := omega) only [push_cast, ↓reduceIte, Nat.reduceEqDiff, Nat.reduceAdd, Nat.reduceLT, Nat.reduceLeDiff, Nat.reduceBEq, Nat.reduceMul, Nat.reduceSub, Int.reduceToNat, Int.reduceEq, Int.reduceLT, Int.reduceLE, Int.reduceNeg, Int.reduceAdd, Int.reduceSub, Int.reduceMul, Tryz.f96, kr96, ty3, ty4, ty83, ty86, ty120, tb4, hl, hle, hb, ht, hp, hi', hmx, hmx', bin_shl, bin_shr, bin_and, bin_or, cv_iu, cv_ui, ha, wtp, c1, c3, c5, c6]
              rfl
          · by_cases c7 : last + p - 1 + bi < tp
            · refine ⟨?_, ?_, ?_⟩
              rotate_left 2
              · refine lim_run (fn := Tryz.f96) fn96 rfl body96 (Nat.le_of_ble_eq_true rfl) ok96 ?_
                simp (config := { maxSteps := 1000000 }) (disch := omega) only [push_cast, ↓reduceIte, Nat.reduceEqDiff, Nat.reduceAdd, Nat.reduceLT, Nat.reduceLeDiff, Nat.reduceBEq, Nat.reduceMul, Nat.reduceSub, Int.reduceToNat, Int.reduceEq, Int.reduceLT, Int.reduceLE, Int.reduceNeg, Int.reduceAdd, Int.reduceSub, Int.reduceMul, Tryz.f96, kr96, ty3, ty4, ty83, ty86, ty120, tb4, hl, hle, hb, ht, hp, hi', hmx, hmx', bin_shl, bin_shr, bin_and, bin_or, cv_iu, cv_ui, ha, wtp, c1, c3, c5, c6, c7]
                rfl
            · refine ⟨?_, ?_, ?_⟩
              rotate_left 2
              · refine lim_run (fn := Tryz.f96) fn96 rfl body96 (Nat.le_of_ble_eq_true rfl) ok96 ?_
                simp (config := { maxSteps := 1000000 }) (disch := omega) only [push_cast, ↓reduceIte, Nat.reduceEqDiff, Nat.reduceAdd, Nat.reduceLT, Nat.reduceLeDiff, Nat.reduceBEq, Nat.reduceMul, Nat.reduceSub, Int.reduceToNat, Int.reduceEq, Int.reduceLT, Int.reduceLE, Int.reduceNeg, Int.reduceAdd, Int.reduceSub, Int.reduceMul, Tryz.f96, kr96, ty3, ty4, ty83, ty86, ty120, tb4, hl, hle, hb, ht, hp, hi', hmx, hmx', bin_shl, bin_shr, bin_and, bin_or, cv_iu, cv_ui, ha, wtp, c1, c3, c5, c6, c7]
                rfl
  · obtain ⟨m, r, hr⟩ := f_right hi lo e (last - e) more (by omega)
    by_cases c2 : 0 < r
    · obtain ⟨aw, ha⟩ := f_away s (decide (andK .u64 m 1 = 1)) r
      by_cases c3 : e + L - 1 < le + p - 1
      · cases aw
        · by_cases c5 : m = shlK .u64 1 p
          · by_cases c6 : (shrK .u64 m 1) < shlK .u64 1 (p - 1)
            · refine ⟨?_, ?_, ?_⟩
              rotate_left 2
              · refine lim_run (fn := Tryz.f96) fn96 rfl body96 (Nat.le_of_ble_eq_true rfl) ok96 ?_
                simp (config := { maxSteps := 1000000 }) (disch := omega) only [push_cast, ↓reduceIte, Nat.reduceEqDiff, Nat.reduceAdd, Nat.reduceLT, Nat.reduceLeDiff, Nat.reduceBEq, Nat.reduceMul, Nat.reduceSub, Int.reduceToNat, Int.reduceEq, Int.reduceLT, Int.reduceLE, Int.reduceNeg, Int.reduceAdd, Int.reduceSub, Int.reduceMul, Tryz.f96, kr96, ty3, ty4, ty83, ty86, ty120, tb4, hl, hle, hb, ht, hp, hi', hmx, hmx', bin_shl, bin_shr, bin_and, bin_or, cv_iu, cv_ui, ha, wtp, c1, hr, c2, c3, eq_true c5, c6]
                rfl
            · by_cases c7 : last + 1 + p - 1 + bi < tp
              · refine ⟨?_, ?_, ?_⟩
                rotate_left 2
                · refine lim_run (fn := Tryz.f96) fn96 rfl body96 (Nat.le_of_ble_eq_true rfl) ok96 ?_
                  simp (config := { maxSteps := 1000000 }) (disch := omega) only [push_cast, ↓reduceIte, Nat.reduceEqDiff, Nat.reduceAdd, Nat.reduceLT, Nat.reduceLeDiff, Nat.reduceBEq, Nat.reduceMul, Nat.reduceSub, Int.reduceToNat, Int.reduceEq, Int.reduceLT, Int.reduceLE, Int.reduceNeg, Int.reduceAdd, Int.reduceSub, Int.reduceMul, Tryz.f96, kr96, ty3, ty4, ty83, ty86, ty120, tb4, hl, hle, hb, ht, hp, hi', hmx, hmx', bin_shl, bin_shr, bin_and, bin_or, cv_iu, cv_ui, ha, wtp, c1, hr, c2, c3, eq_true c5, c6, c7]
                  rfl
              · refine ⟨?_, ?_, ?_⟩
                rotate_left 2
                · refine lim_run (fn := Tryz.f96) fn96 rfl body96 (Nat.le_of_ble_eq_true rfl) ok96 ?_
                  simp (config := { maxSteps := 1000000 }) (disch := omega) only [push_cast, ↓reduceIte, Nat.reduceEqDiff, Nat.reduceAdd, Nat.reduceLT, Nat.reduceLeDiff, Nat.reduceBEq, Nat.reduceMul, Nat.reduceSub, Int.reduceToNat, Int.reduceEq, Int.reduceLT, Int.reduceLE, Int.reduceNeg, Int.reduceAdd, Int.reduceSub, Int.reduceMul, Tryz.f96, kr96, ty3, ty4, ty83, ty86, ty120, tb4, hl, hle, hb, ht, hp, hi', hmx, hmx', bin_shl, bin_shr, bin_and, bin_or, cv_iu, cv_ui, ha, wtp, c1, hr, c2, c3, eq_true c5, c6, c7]
                  rfl
          · by_cases c6 : m < shlK .u64 1 (p - 1)
            · refine ⟨?_, ?_, ?_⟩
              rotate_left 2
              · refine lim_run (fn := Tryz.f96) fn96 rfl body96 (Nat.le_of_ble_eq_true rfl) ok96 ?_
                simp (config := { maxSteps := 1000000 }) (disch := omega) only [push_cast, ↓reduceIte, Nat.reduceEqDiff, Nat.reduceAdd, Nat.reduceLT, Nat.reduceLeDiff, Nat.reduceBEq, Nat.reduceMul, Nat.reduceSub, Int.reduceToNat, Int.reduceEq, Int.reduceLT, Int.reduceLE, Int.reduceNeg, Int.reduceAdd, Int.reduceSub, Int.reduceMul, Tryz.f96, kr96, ty3, ty4, ty83, ty86, ty120, tb4, hl, hle, hb, ht, hp, hi', hmx, hmx', bin_shl, bin_shr, bin_and, bin_or, cv_iu, cv_ui, ha, wtp, c1, hr, c2, c3, c5, c6]
                rfl
            · by_cases c7 : last + p - 1 + bi < tp
              · refine ⟨?_, ?_, ?_⟩
                rotate_left 2
                · refine lim_run (fn := Tryz.f96) fn96 rfl body96 (Nat.le_of_ble_eq_true rfl) ok96 ?_
                  simp (config := { maxSteps := 1000000 }) (disch := omega) only [push_cast, ↓reduceIte, Nat.reduceEqDiff, Nat.reduceAdd, Nat.reduceLT, Nat.reduceLeDiff, Nat.reduceBEq, Nat.reduceMul, Nat.reduceSub, Int.reduceToNat, Int.reduceEq, Int.reduceLT, Int.reduceLE, Int.reduceNeg, Int.reduceAdd, Int.reduceSub, Int.reduceMul, Tryz.f96, kr96, ty3, ty4, ty83, ty86, ty120, tb4, hl, hle, hb, ht, hp, hi', hmx, hmx', bin_shl, bin_shr, bin_and, bin_or, cv_iu, cv_ui, ha, wtp, c1, hr, c2, c3, c5, c6, c7]
                  rfl
              · refine ⟨?_, ?_, ?_⟩
                rotate_left 2
                · refine lim_run (fn := Tryz.f96) fn96 rfl body96 (Nat.le_of_ble_eq_true rfl) ok96 ?_
                  simp (config := { maxSteps := 1000000 }) (disch := omega) only [push_cast, ↓reduceIte, Nat.reduceEqDiff, Nat.reduceAdd, Nat.reduceLT, Nat.reduceLeDiff, Nat.reduceBEq, Nat.reduceMul, Nat.reduceSub, Int.reduceToNat, Int.reduceEq, Int.reduceLT, Int.reduceLE, Int.reduceNeg, Int.reduceAdd, Int.reduceSub, Int.reduceMul, Tryz.f96, kr96, ty3, ty4, ty83, ty86, ty120, tb4, hl, hle, hb, ht, hp, hi', hmx, hmx', bin_shl, bin_shr, bin_and, bin_or, cv_iu, cv_ui, ha, wtp, c1, hr, c2, c3, c5, c6, c7]
                  rfl
        · by_cases c5 : (IntKind.u64.wrap (m + 1)) = shlK .u64 1 p
          · by_cases c6 : (shrK .u64 (IntKind.u64.wrap (m + 1)) 1) < shlK .u64 1 (p - 1)
            · refine ⟨?_, ?_, ?_⟩
              rotate_left 2
              · refine lim_run (fn := Tryz.f96) fn96 rfl body96 (Nat.le_of_ble_eq_true rfl) ok96 ?_
                simp (config := { maxSteps := 1000000 }) (disch := omega) only [push_cast, ↓reduceIte, Nat.reduceEqDiff, Nat.reduceAdd, Nat.reduceLT, Nat.reduceLeDiff, Nat.reduceBEq, Nat.reduceMul, Nat.reduceSub, Int.reduceToNat, Int.reduceEq, Int.reduceLT, Int.reduceLE, Int.reduceNeg, Int.reduceAdd, Int.reduceSub, Int.reduceMul, Tryz.f96, kr96, ty3, ty4, ty83, ty86, ty120, tb4, hl, hle, hb, ht, hp, hi', hmx, hmx', bin_shl, bin_shr, bin_and, bin_or, cv_iu, cv_ui, ha, wtp, c1, hr, c2, c3, eq_true c5, c6]
                rfl
            · by_cases c7 : last + 1 + p - 1 + bi < tp
              · refine ⟨?_, ?_, ?_⟩
                rotate_left 2
                · refine lim_run (fn := Tryz.f96) fn96 rfl body96 (Nat.le_of_ble_eq_true rfl) ok96 ?_
                  simp (config := { maxSteps := 1000000 }) (disch := omega) only [push_cast, ↓reduceIte, Nat.reduceEqDiff, Nat.reduceAdd, Nat.reduceLT, Nat.reduceLeDiff, Nat.reduceBEq, Nat.reduceMul, Nat.reduceSub, Int.reduceToNat, Int.reduceEq, Int.reduceLT, Int.reduceLE, Int.reduceNeg, Int.reduceAdd, Int.reduceSub, Int.reduceMul, Tryz.f96, kr96, ty3, ty4, ty83, ty86, ty120, tb4, hl, hle, hb, ht, hp, hi', hmx, hmx', bin_shl, bin_shr, bin_and, bin_or, cv_iu, cv_ui, ha, wtp, c1, hr, c2, c3, eq_true c5, c6, c7]
                  rfl
              · refine ⟨?_, ?_, ?_⟩
                rotate_left 2
                · refine lim_run (fn := Tryz.f96) fn96 rfl body96 (Nat.le_of_ble_eq_true rfl) ok96 ?_
                  simp (config := { maxSteps := 1000000 }) (disch := omega) only [push_cast, ↓reduceIte, Nat.reduceEqDiff, Nat.reduceAdd, Nat.reduceLT, Nat.reduceLeDiff, Nat.reduceBEq, Nat.reduceMul, Nat.reduceSub, Int.reduceToNat, Int.reduceEq, Int.reduceLT, Int.reduceLE, Int.reduceNeg, Int.reduceAdd, Int.reduceSub, Int.reduceMul, Tryz.f96, kr96, ty3, ty4, ty83, ty86, ty120, tb4, hl, hle, hb, ht, hp, hi', hmx, hmx', bin_shl, bin_shr, bin_and, bin_or, cv_iu, cv_ui, ha, wtp, c1, hr, c2, c3, eq_true c5, c6, c7]
                  rfl
          · by_cases c6 : (IntKind.u64.wrap (m + 1)) < shlK .u64 1 (p - 1)
            · refine ⟨?_, ?_, ?_⟩
              rotate_left 2
              · refine lim_run (fn := Tryz.f96) fn96 rfl body96 (Nat.le_of_ble_eq_true rfl) ok96 ?_
                simp (config := { maxSteps := 1000000 }) (disch := omega) only [push_cast, ↓reduceIte, Nat.reduceEqDiff, Nat.reduceAdd, Nat.reduceLT, Nat.reduceLeDiff, Nat.reduceBEq, Nat.reduceMul, Nat.reduceSub, Int.reduceToNat, Int.reduceEq, Int.reduceLT, Int.reduceLE, Int.reduceNeg, Int.reduceAdd, Int.reduceSub, Int.reduceMul, Tryz.f96, kr96, ty3, ty4, ty83, ty86, ty120, tb4, hl, hle, hb, ht, hp, hi', hmx, hmx', bin_shl, bin_shr, bin_and, bin_or, cv_iu, cv_ui, ha, wtp, c1, hr, c2, c3, c5, c6]
                rfl
            · by_cases c7 : last + p - 1 + bi < tp
              · refine ⟨?_, ?_, ?_⟩
                rotate_left 2
                · refine lim_run (fn := Tryz.f96) fn96 rfl body96 (Nat.le_of_ble_eq_true rfl) ok96 ?_
                  simp (config := { maxSteps := 1000000 }) (disch := omega) only [push_cast, ↓reduceIte, Nat.reduceEqDiff, Nat.reduceAdd, Nat.reduceLT, Nat.reduceLeDiff, Nat.reduceBEq, Nat.reduceMul, Nat.reduceSub, Int.reduceToNat, Int.reduceEq, Int.reduceLT, Int.reduceLE, Int.reduceNeg, Int.reduceAdd, Int.reduceSub, Int.reduceMul, Tryz.f96, kr96, ty3, ty4, ty83, ty86, ty120, tb4, hl, hle, hb, ht, hp, hi', hmx, hmx', bin_shl, bin_shr, bin_and, bin_or, cv_iu, cv_ui, ha, wtp, c1, hr, c2, c3, c5, c6, c7]
                  rfl
              · refine ⟨?_, ?_, ?_⟩
                rotate_left 2
                · refine lim_run (fn := Tryz.f96) fn96 rfl body96 (Nat.le_of_ble_eq_true rfl) ok96 ?_
                  simp (config := { maxSteps := 1000000 }) (disch := omega) only [push_cast, ↓reduceIte, Nat.reduceEqDiff, Nat.reduceAdd, Nat.reduceLT, Nat.reduceLeDiff, Nat.reduceBEq, Nat.reduceMul, Nat.reduceSub, Int.reduceToNat, Int.reduceEq, Int.reduceLT, Int.reduceLE, Int.reduceNeg, Int.reduceAdd, Int.reduceSub, Int.reduceMul, Tryz.f96, kr96, ty3, ty4, ty83, ty86, ty120, tb4, hl, hle, hb, ht, hp, hi', hmx, hmx', bin_shl, bin_shr, bin_and, bin_or, cv_iu, cv_ui, ha, wtp, c1, hr, c2, c3, c5, c6, c7]
                  rfl
      · cases aw
        · by_cases c5 : m = shlK .u64 1 p
          · by_cases c6 : (shrK .u64 m 1) < shlK .u64 1 (p - 1)
            · refine ⟨?_, ?_, ?_⟩
              rotate_left 2
              · refine lim_run (fn := Tryz.f96) fn96 rfl body96 (Nat.le_of_ble_eq_true rfl) ok96 ?_
                simp (config := { maxSteps := 1000000 }) (disch := omega) only [push_cast, ↓reduceIte, Nat.reduceEqDiff, Nat.reduceAdd, Nat.reduceLT, Nat.reduceLeDiff, Nat.reduceBEq, Nat.reduceMul, Nat.reduceSub, Int.reduceToNat, Int.reduceEq, Int.reduceLT, Int.reduceLE, Int.reduceNeg, Int.reduceAdd, Int.reduceSub, Int.reduceMul, Tryz.f96, kr96, ty3, ty4, ty83, ty86, ty120, tb4, hl, hle, hb, ht, hp, hi', hmx, hmx', bin_shl, bin_shr, bin_and, bin_or, cv_iu, cv_ui, ha, wtp, c1, hr, c2, c3, eq_true c5, c6]
                rfl
            · by_cases c7 : last + 1 + p - 1 + bi < tp
              · refine ⟨?_, ?_, ?_⟩
                rotate_left 2
                · refine lim_run (fn := Tryz.f96) fn96 rfl body96 (Nat.le_of_ble_eq_true rfl) ok96 ?_
                  simp (config := { maxSteps := 1000000 }) (disch := omega) only [push_cast, ↓reduceIte, Nat.reduceEqDiff, Nat.reduceAdd, Nat.reduceLT, Nat.reduceLeDiff, Nat.reduceBEq, Nat.reduceMul, Nat.reduceSub, Int.reduceToNat, Int.reduceEq, Int.reduceLT, Int.reduceLE, Int.reduceNeg, Int.reduceAdd, Int.reduceSub, Int.reduceMul, Tryz.f96, kr96, ty3, ty4, ty83, ty86, ty120, tb4, hl, hle, hb, ht, hp, hi', hmx, hmx', bin_shl, bin_shr, bin_and, bin_or, cv_iu, cv_ui, ha, wtp, c1, hr, c2, c3, eq_true c5, c6, c7]
                  rfl
              · refine ⟨?_, ?_, ?_⟩
                rotate_left 2
                · refine lim_run (fn := Tryz.f96) fn96 rfl body96 (Nat.le_of_ble_eq_true rfl) ok96 ?_
                  simp (config := { maxSteps := 1000000 }) (disch := omega) only [push_cast, ↓reduceIte, Nat.reduceEqDiff, Nat.reduceAdd, Nat.reduceLT, Nat.reduceLeDiff, Nat.reduceBEq, Nat.reduceMul, Nat.reduceSub, Int.reduceToNat, Int.reduceEq, Int.reduceLT, Int.reduceLE, Int.reduceNeg, Int.reduceAdd, Int.reduceSub, Int.reduceMul, Tryz.f96, kr96, ty3, ty4, ty83, ty86, ty120, tb4, hl, hle, hb, ht, hp, hi', hmx, hmx', bin_shl, bin_shr, bin_and, bin_or, cv_iu, cv_ui, ha, wtp, c1, hr, c2, c3, eq_true c5, c6, c7]
                  rfl
          · by_cases c6 : m < shlK .u64 1 (p - 1)
            · refine ⟨?_, ?_, ?_⟩
              rotate_left 2
              · refine lim_run (fn := Tryz.f96) fn96 rfl body96 (Nat.le_of_ble_eq_true rfl) ok96 ?_
                simp (config := { maxSteps := 1000000 }) (disch := omega) only [push_cast, ↓reduceIte, Nat.reduceEqDiff, Nat.reduceAdd, Nat.reduceLT, Nat.reduceLeDiff, Nat.reduceBEq, Nat.reduceMul, Nat.reduceSub, Int.reduceToNat, Int.reduceEq, Int.reduceLT, Int.reduceLE, Int.reduceNeg, Int.reduceAdd, Int.reduceSub, Int.reduceMul, Tryz.f96, kr96, ty3, ty4, ty83, ty86, ty120, tb4, hl, hle, hb, ht, hp, hi', hmx, hmx', bin_shl, bin_shr, bin_and, bin_or, cv_iu, cv_ui, ha, wtp, c1, hr, c2, c3, c5, c6]
                rfl
            · by_cases c7 : last + p - 1 + bi < tp
              · refine ⟨?_, ?_, ?_⟩
                rotate_left 2
                · refine lim_run (fn := Tryz.f96) fn96 rfl body96 (Nat.le_of_ble_eq_true rfl) ok96 ?_
                  simp (config := { maxSteps := 1000000 }) (disch := omega) only [push_cast, ↓reduceIte, Nat.reduceEqDiff, Nat.reduceAdd, Nat.reduceLT, Nat.reduceLeDiff, Nat.reduceBEq, Nat.reduceMul, Nat.reduceSub, Int.reduceToNat, Int.reduceEq, Int.reduceLT, Int.reduceLE, Int.reduceNeg, Int.reduceAdd, Int.reduceSub, Int.reduceMul, Tryz.f96, kr96, ty3, ty4, ty83, ty86, ty120, tb4, hl, hle, hb, ht, hp, hi', hmx, hmx', bin_shl, bin_shr, bin_and, bin_or, cv_iu, cv_ui, ha, wtp, c1, hr, c2, c3, c5, c6, c7]
                  rfl
              · refine ⟨?_, ?_, ?_⟩
                rotate_left 2
                · refine lim_run (fn := Tryz.f96) fn96 rfl body96 (Nat.le_of_ble_eq_true rfl) ok96 ?_
                  simp (config := { maxSteps := 1000000 }) (disch := omega) only [push_cast, ↓reduceIte, Nat.reduceEqDiff, Nat.reduceAdd, Nat.reduceLT, Nat.reduceLeDiff, Nat.reduceBEq, Nat.reduceMul, Nat.reduceSub, Int.reduceToNat, Int.reduceEq, Int.reduceLT, Int.reduceLE, Int.reduceNeg, Int.reduceAdd, Int.reduceSub, Int.reduceMul, Tryz.f96, kr96, ty3, ty4, ty83, ty86, ty120, tb4, hl, hle, hb, ht, hp, hi', hmx, hmx', bin_shl, bin_shr, bin_and, bin_or, cv_iu, cv_ui, ha, wtp, c1, hr, c2, c3, c5, c6, c7]
                  rfl
        · by_cases c5 : (IntKind.u64.wrap (m + 1)) = shlK .u64 1 p
          · by_cases c6 : (shrK .u64 (IntKind.u64.wrap (m + 1)) 1) < shlK .u64 1 (p - 1)
            · refine ⟨?_, ?_, ?_⟩
              rotate_left 2
              · refine lim_run (fn := Tryz.f96) fn96 rfl body96 (Nat.le_of_ble_eq_true rfl) ok96 ?_
                simp (config := { maxSteps := 1000000 }) (disch := omega) only [push_cast, ↓reduceIte, Nat.reduceEqDiff, Nat.reduceAdd, Nat.reduceLT, Nat.reduceLeDiff, Nat.reduceBEq, Nat.reduceMul, Nat.reduceSub, Int.reduceToNat, Int.reduceEq, Int.reduceLT, Int.reduceLE, Int.reduceNeg, Int.reduceAdd, Int.reduceSub, Int.reduceMul, Tryz.f96, kr96, ty3, ty4, ty83, ty86, ty120, tb4, hl, hle, hb, ht, hp, hi', hmx, hmx', bin_shl, bin_shr, bin_and, bin_or, cv_iu, cv_ui, ha, wtp, c1, hr, c2, c3, eq_true c5, c6]
                rfl
            · by_cases c7 : last + 1 + p - 1 + bi < tp
              · refine ⟨?_, ?_, ?_⟩
                rotate_left 2
                · refine lim_run (fn := Tryz.f96) fn96 rfl body96 (Nat.le_of_ble_eq_true rfl) ok96 ?_
                  simp (config := { maxSteps := 1000000 }) (disch := omega) only [push_cast, ↓reduceIte, Nat.reduceEqDiff, Nat.reduceAdd, Nat.reduceLT, Nat.reduceLeDiff, Nat.reduceBEq, Nat.reduceMul, Nat.reduceSub, Int.reduceToNat, Int.reduceEq, Int.reduceLT, Int.reduceLE, Int.reduceNeg, Int.reduceAdd, Int.reduceSub, Int.reduceMul, Tryz.f96, kr96, ty3, ty4, ty83, ty86, ty120, tb4, hl, hle, hb, ht, hp, hi', hmx, hmx', bin_shl, bin_shr, bin_and, bin_or, cv_iu, cv_ui, ha, wtp, c1, hr, c2, c3, eq_true c5, c6, c7]
                  rfl
              · refine ⟨?_, ?_, ?_⟩
                rotate_left 2
                · refine lim_run (fn := Tryz.f96) fn96 rfl body96 (Nat.le_of_ble_eq_true rfl) ok96 ?_
                  simp (config := { maxSteps := 1000000 }) (disch := omega) only [push_cast, ↓reduceIte, Nat.reduceEqDiff, Nat.reduceAdd, Nat.reduceLT, Nat.reduceLeDiff, Nat.reduceBEq, Nat.reduceMul, Nat.reduceSub, Int.reduceToNat, Int.reduceEq, Int.reduceLT, Int.reduceLE, Int.reduceNeg, Int.reduceAdd, Int.reduceSub, Int.reduceMul, Tryz.f96, kr96, ty3, ty4, ty83, ty86, ty120, tb4, hl, hle, hb, ht, hp, hi', hmx, hmx', bin_shl, bin_shr, bin_and, bin_or, cv_iu, cv_ui, ha, wtp, c1, hr, c2, c3, eq_true c5, c6, c7]
                  rfl
          · by_cases c6 : (IntKind.u64.wrap (m + 1)) < shlK .u64 1 (p - 1)
            · refine ⟨?_, ?_, ?_⟩
              rotate_left 2
              · refine lim_run (fn := Tryz.f96) fn96 rfl body96 (Nat.le_of_ble_eq_true rfl) ok96 ?_
                simp (config := { maxSteps := 1000000 }) (disch := omega) only [push_cast, ↓reduceIte, Nat.reduceEqDiff, Nat.reduceAdd, Nat.reduceLT, Nat.reduceLeDiff, Nat.reduceBEq, Nat.reduceMul, Nat.reduceSub, Int.reduceToNat, Int.reduceEq, Int.reduceLT, Int.reduceLE, Int.reduceNeg, Int.reduceAdd, Int.reduceSub, Int.reduceMul, Tryz.f96, kr96, ty3, ty4, ty83, ty86, ty120, tb4, hl, hle, hb, ht, hp, hi', hmx, hmx', bin_shl, bin_shr, bin_and, bin_or, cv_iu, cv_ui, ha, wtp, c1, hr, c2, c3, c5, c6]
                rfl
            · by_cases c7 : last + p - 1 + bi < tp
              · refine ⟨?_, ?_, ?_⟩
                rotate_left 2
                · refine lim_run (fn := Tryz.f96) fn96 rfl body96 (Nat.le_of_ble_eq_true rfl) ok96 ?_
                  simp (config := { maxSteps := 1000000 }) (disch := omega) only [push_cast, ↓reduceIte, Nat.reduceEqDiff, Nat.reduceAdd, Nat.reduceLT, Nat.reduceLeDiff, Nat.reduceBEq, Nat.reduceMul, Nat.reduceSub, Int.reduceToNat, Int.reduceEq, Int.reduceLT, Int.reduceLE, Int.reduceNeg, Int.reduceAdd, Int.reduceSub, Int.reduceMul, Tryz.f96, kr96, ty3, ty4, ty83, ty86, ty120, tb4, hl, hle, hb, ht, hp, hi', hmx, hmx', bin_shl, bin_shr, bin_and, bin_or, cv_iu, cv_ui, ha, wtp, c1, hr, c2, c3, c5, c6, c7]
                  rfl
              · refine ⟨?_, ?_, ?_⟩
                rotate_left 2
                · refine lim_run (fn := Tryz.f96) fn96 rfl body96 (Nat.le_of_ble_eq_true rfl) ok96 ?_
                  simp (config := { maxSteps := 1000000 }) (disch := omega) only [push_cast, ↓reduceIte, Nat.reduceEqDiff, Nat.reduceAdd, Nat.reduceLT, Nat.reduceLeDiff, Nat.reduceBEq, Nat.reduceMul, Nat.reduceSub, Int.reduceToNat, Int.reduceEq, Int.reduceLT, Int.reduceLE, Int.reduceNeg, Int.reduceAdd, Int.reduceSub, Int.reduceMul, Tryz.f96, kr96, ty3, ty4, ty83, ty86, ty120, tb4, hl, hle, hb, ht, hp, hi', hmx, hmx', bin_shl, bin_shr, bin_and, bin_or, cv_iu, cv_ui, ha, wtp, c1, hr, c2, c3, c5, c6, c7]
                  rfl
    · obtain ⟨aw, ha⟩ := f_away s (decide (andK .u64 m 1 = 1)) r
      by_cases c3 : e + L - 1 < le + p - 1
      · cases aw
        · by_cases c5 : m = shlK .u64 1 p
          · by_cases c6 : (shrK .u64 m 1) < shlK .u64 1 (p - 1)
            · refine ⟨?_, ?_, ?_⟩
              rotate_left 2
              · refine lim_run (fn := Tryz.f96) fn96 rfl body96 (Nat.le_of_ble_eq_true rfl) ok96 ?_
                simp (config := { maxSteps := 1000000 }) (disch := omega) only [push_cast, ↓reduceIte, Nat.reduceEqDiff, Nat.reduceAdd, Nat.reduceLT, Nat.reduceLeDiff, Nat.reduceBEq, Nat.reduceMul, Nat.reduceSub, Int.reduceToNat, Int.reduceEq, Int.reduceLT, Int.reduceLE, Int.reduceNeg, Int.reduceAdd, Int.reduceSub, Int.reduceMul, Tryz.f96, kr96, ty3, ty4, ty83, ty86, ty120, tb4, hl, hle, hb, ht, hp, hi', hmx, hmx', bin_shl, bin_shr, bin_and, bin_or, cv_iu, cv_ui, ha, wtp, c1, hr, c2, c3, eq_true c5, c6]
                rfl
            · by_cases c7 : last + 1 + p - 1 + bi < tp
              · refine ⟨?_, ?_, ?_⟩
                rotate_left 2
                · refine lim_run (fn := Tryz.f96) fn96 rfl body96 (Nat.le_of_ble_eq_true rfl) ok96 ?_
                  simp (config := { maxSteps := 1000000 }) (disch := omega) only [push_cast, ↓reduceIte, Nat.reduceEqDiff, Nat.reduceAdd, Nat.reduceLT, Nat.reduceLeDiff, Nat.reduceBEq, Nat.reduceMul, Nat.reduceSub, Int.reduceToNat, Int.reduceEq, Int.reduceLT, Int.reduceLE, Int.reduceNeg, Int.reduceAdd, Int.reduceSub, Int.reduceMul, Tryz.f96, kr96, ty3, ty4, ty83, ty86, ty120, tb4, hl, hle, hb, ht, hp, hi', hmx, hmx', bin_shl, bin_shr, bin_and, bin_or, cv_iu, cv_ui, ha, wtp, c1, hr, c2, c3, eq_true c5, c6, c7]
                  rfl
              · refine ⟨?_, ?_, ?_⟩
                rotate_left 2
                · refine lim_run (fn := Tryz.f96) fn96 rfl body96 (Nat.le_of_ble_eq_true rfl) ok96 ?_
                  simp (config := { maxSteps := 1000000 }) (disch := omega) only [push_cast, ↓reduceIte, Nat.reduceEqDiff, Nat.reduceAdd, Nat.reduceLT, Nat.reduceLeDiff, Nat.reduceBEq, Nat.reduceMul, Nat.reduceSub, Int.reduceToNat, Int.reduceEq, Int.reduceLT, Int.reduceLE, Int.reduceNeg, Int.reduceAdd, Int.reduceSub, Int.reduceMul, Tryz.f96, kr96, ty3, ty4, ty83, ty86, ty120, tb4, hl, hle, hb, ht, hp, hi', hmx, hmx', bin_shl, bin_shr, bin_and, bin_or, cv_iu, cv_ui, ha, wtp, c1, hr, c2, c3, eq_true c5, c6, c7]
                  rfl
          · by_cases c6 : m < shlK .u64 1 (p - 1)
            · refine ⟨?_, ?_, ?_⟩
              rotate_left 2
              · refine lim_run (fn := Tryz.f96) fn96 rfl body96 (Nat.le_of_ble_eq_true rfl) ok96 ?_
                simp (config := { maxSteps := 1000000 }) (disch := omega) only [push_cast, ↓reduceIte, Nat.reduceEqDiff, Nat.reduceAdd, Nat.reduceLT, Nat.reduceLeDiff, Nat.reduceBEq, Nat.reduceMul, Nat.reduceSub, Int.reduceToNat, Int.reduceEq, Int.reduceLT, Int.reduceLE, Int.reduceNeg, Int.reduceAdd, Int.reduceSub, Int.reduceMul, Tryz.f96, kr96, ty3, ty4, ty83, ty86, ty120, tb4, hl, hle, hb, ht, hp, hi', hmx, hmx', bin_shl, bin_shr, bin_and, bin_or, cv_iu, cv_ui, ha, wtp, c1, hr, c2, c3, c5, c6]
                rfl
            · by_cases c7 : last + p - 1 + bi < tp
              · refine ⟨?_, ?_, ?_⟩
                rotate_left 2
                · refine lim_run (fn := Tryz.f96) fn96 rfl body96 (Nat.le_of_ble_eq_true rfl) ok96 ?_
                  simp (config := { maxSteps := 1000000 }) (disch := omega) only [push_cast, ↓reduceIte, Nat.reduceEqDiff, Nat.reduceAdd, Nat.reduceLT, Nat.reduceLeDiff, Nat.reduceBEq, Nat.reduceMul, Nat.reduceSub, Int.reduceToNat, Int.reduceEq, Int.reduceLT, Int.reduceLE, Int.reduceNeg, Int.reduceAdd, Int.reduceSub, Int.reduceMul, Tryz.f96, kr96, ty3, ty4, ty83, ty86, ty120, tb4, hl, hle, hb, ht, hp, hi', hmx, hmx', bin_shl, bin_shr, bin_and, bin_or, cv_iu, cv_ui, ha, wtp, c1, hr, c2, c3, c5, c6, c7]
                  rfl
              · refine ⟨?_, ?_, ?_⟩
                rotate_left 2
                · refine lim_run (fn := Tryz.f96) fn96 rfl body96 (Nat.le_of_ble_eq_true rfl) ok96 ?_
                  simp (config := { maxSteps := 1000000 }) (disch := omega) only [push_cast, ↓reduceIte, Nat.reduceEqDiff, Nat.reduceAdd, Nat.reduceLT, Nat.reduceLeDiff, Nat.reduceBEq, Nat.reduceMul, Nat.reduceSub, Int.reduceToNat, Int.reduceEq, Int.reduceLT, Int.reduceLE, Int.reduceNeg, Int.reduceAdd, Int.reduceSub, Int.reduceMul, Tryz.f96, kr96, ty3, ty4, ty83, ty86, ty120, tb4, hl, hle, hb, ht, hp, hi', hmx, hmx', bin_shl, bin_shr, bin_and, bin_or, cv_iu, cv_ui, ha, wtp, c1, hr, c2, c3, c5, c6, c7]
                  rfl
        · by_cases c5 : (IntKind.u64.wrap (m + 1)) = shlK .u64 1 p
          · by_cases c6 : (shrK .u64 (IntKind.u64.wrap (m + 1)) 1) < shlK .u64 1 (p - 1)
            · refine ⟨?_, ?_, ?_⟩
              rotate_left 2
              · refine lim_run (fn := Tryz.f96) fn96 rfl body96 (Nat.le_of_ble_eq_true rfl) ok96 ?_
                simp (config := { maxSteps := 1000000 }) (disch := omega) only [push_cast, ↓reduceIte, Nat.reduceEqDiff, Nat.reduceAdd, Nat.reduceLT, Nat.reduceLeDiff, Nat.reduceBEq, Nat.reduceMul, Nat.reduceSub, Int.reduceToNat, Int.reduceEq, Int.reduceLT, Int.reduceLE, Int.reduceNeg, Int.reduceAdd, Int.reduceSub, Int.reduceMul, Tryz.f96, kr96, ty3, ty4, ty83, ty86, ty120, tb4, hl, hle, hb, ht, hp, hi', hmx, hmx', bin_shl, bin_shr, bin_and, bin_or, cv_iu, cv_ui, ha, wtp, c1, hr, c2, c3, eq_true c5, c6]
                rfl
            · by_cases c7 : last + 1 + p - 1 + bi < tp
              · refine ⟨?_, ?_, ?_⟩
                rotate_left 2
                · refine lim_run (fn := Tryz.f96) fn96 rfl body96 (Nat.le_of_ble_eq_true rfl) ok96 ?_
                  simp (config := { maxSteps := 1000000 }) (disch := omega) only [push_cast, ↓reduceIte, Nat.reduceEqDiff, Nat.reduceAdd, Nat.reduceLT, Nat.reduceLeDiff, Nat.reduceBEq, Nat.reduceMul, Nat.reduceSub, Int.reduceToNat, Int.reduceEq, Int.reduceLT, Int.reduceLE, Int.reduceNeg, Int.reduceAdd, Int.reduceSub, Int.reduceMul, Tryz.f96, kr96, ty3, ty4, ty83, ty86, ty120, tb4, hl, hle, hb, ht, hp, hi', hmx, hmx', bin_shl, bin_shr, bin_and, bin_or, cv_iu, cv_ui, ha, wtp, c1, hr, c2, c3, eq_true c5, c6, c7]
                  rfl
              · refine ⟨?_, ?_, ?_⟩
                rotate_left 2
                · refine lim_run (fn := Tryz.f96) fn96 rfl body96 (Nat.le_of_ble_eq_true rfl) ok96 ?_
                  simp (config := { maxSteps := 1000000 }) (disch := omega) only [push_cast, ↓reduceIte, Nat.reduceEqDiff, Nat.reduceAdd, Nat.reduceLT, Nat.reduceLeDiff, Nat.reduceBEq, Nat.reduceMul, Nat.reduceSub, Int.reduceToNat, Int.reduceEq, Int.reduceLT, Int.reduceLE, Int.reduceNeg, Int.reduceAdd, Int.reduceSub, Int.reduceMul, Tryz.f96, kr96, ty3, ty4, ty83, ty86, ty120, tb4, hl, hle, hb, ht, hp, hi', hmx, hmx', bin_shl, bin_shr, bin_and, bin_or, cv_iu, cv_ui, ha, wtp, c1, hr, c2, c3, eq_true c5, c6, c7]
                  rfl
          · by_cases c6 : (IntKind.u64.wrap (m + 1)) < shlK .u64 1 (p - 1)
            · refine ⟨?_, ?_, ?_⟩
              rotate_left 2
              · refine lim_run (fn := Tryz.f96) fn96 rfl body96 (Nat.le_of_ble_eq_true rfl) ok96 ?_
                simp (config := { maxSteps := 1000000 }) (disch := omega) only [push_cast, ↓reduceIte, Nat.reduceEqDiff, Nat.reduceAdd, Nat.reduceLT, Nat.reduceLeDiff, Nat.reduceBEq, Nat.reduceMul, Nat.reduceSub, Int.reduceToNat, Int.reduceEq, Int.reduceLT, Int.reduceLE, Int.reduceNeg, Int.reduceAdd, Int.reduceSub, Int.reduceMul, Tryz.f96, kr96, ty3, ty4, ty83, ty86, ty120, tb4, hl, hle, hb, ht, hp, hi', hmx, hmx', bin_shl, bin_shr, bin_and, bin_or, cv_iu, cv_ui, ha, wtp, c1, hr, c2, c3, c5, c6]
                rfl
            · by_cases c7 : last + p - 1 + bi < tp
              · refine ⟨?_, ?_, ?_⟩
                rotate_left 2
                · refine lim_run (fn := Tryz.f96) fn96 rfl body96 (Nat.le_of_ble_eq_true rfl) ok96 ?_
                  simp (config := { maxSteps := 1000000 }) (disch := omega) only [push_cast, ↓reduceIte, Nat.reduceEqDiff, Nat.reduceAdd, Nat.reduceLT, Nat.reduceLeDiff, Nat.reduceBEq, Nat.reduceMul, Nat.reduceSub, Int.reduceToNat, Int.reduceEq, Int.reduceLT, Int.reduceLE, Int.reduceNeg, Int.reduceAdd, Int.reduceSub, Int.reduceMul, Tryz.f96, kr96, ty3, ty4, ty83, ty86, ty120, tb4, hl, hle, hb, ht, hp, hi', hmx, hmx', bin_shl, bin_shr, bin_and, bin_or, cv_iu, cv_ui, ha, wtp, c1, hr, c2, c3, c5, c6, c7]
                  rfl
              · refine ⟨?_, ?_, ?_⟩
                rotate_left 2
                · refine lim_run (fn := Tryz.f96) fn96 rfl body96 (Nat.le_of_ble_eq_true rfl) ok96 ?_
                  simp (config := { maxSteps := 1000000 }) (disch := omega) only [push_cast, ↓reduceIte, Nat.reduceEqDiff, Nat.reduceAdd, Nat.reduceLT, Nat.reduceLeDiff, Nat.reduceBEq, Nat.reduceMul, Nat.reduceSub, Int.reduceToNat, Int.reduceEq, Int.reduceLT, Int.reduceLE, Int.reduceNeg, Int.reduceAdd, Int.reduceSub, Int.reduceMul, Tryz.f96, kr96, ty3, ty4, ty83, ty86, ty120, tb4, hl, hle, hb, ht, hp, hi', hmx, hmx', bin_shl, bin_shr, bin_and, bin_or, cv_iu, cv_ui, ha, wtp, c1, hr, c2, c3, c5, c6, c7]
                  rfl
      · cases aw
        · by_cases c5 : m = shlK .u64 1 p
          · by_cases c6 : (shrK .u64 m 1) < shlK .u64 1 (p - 1)
            · refine ⟨?_, ?_, ?_⟩
              rotate_left 2
              · refine lim_run (fn := Tryz.f96) fn96 rfl body96 (Nat.le_of_ble_eq_true rfl) ok96 ?_
                simp (config := { maxSteps := 1000000 }) (disch := omega) only [push_cast, ↓reduceIte, Nat.reduceEqDiff, Nat.reduceAdd, Nat.reduceLT, Nat.reduceLeDiff, Nat.reduceBEq, Nat.reduceMul, Nat.reduceSub, Int.reduceToNat, Int.reduceEq, Int.reduceLT, Int.reduceLE, Int.reduceNeg, Int.reduceAdd, Int.reduceSub, Int.reduceMul, Tryz.f96, kr96, ty3, ty4, ty83, ty86, ty120, tb4, hl, hle, hb, ht, hp, hi', hmx, hmx', bin_shl, bin_shr, bin_and, bin_or, cv_iu, cv_ui, ha, wtp, c1, hr, c2, c3, eq_true c5, c6]
                rfl
            · by_cases c7 : last + 1 + p - 1 + bi < tp
              · refine ⟨?_, ?_, ?_⟩
                rotate_left 2
                · refine lim_run (fn := Tryz.f96) fn96 rfl body96 (Nat.le_of_ble_eq_true rfl) ok96 ?_
                  simp (config := { maxSteps := 1000000 }) (disch := omega) only [push_cast, ↓reduceIte, Nat.reduceEqDiff, Nat.reduceAdd, Nat.reduceLT, Nat.reduceLeDiff, Nat.reduceBEq, Nat.reduceMul, Nat.reduceSub, Int.reduceToNat, Int.reduceEq, Int.reduceLT, Int.reduceLE, Int.reduceNeg, Int.reduceAdd, Int.reduceSub, Int.reduceMul, Tryz.f96, kr96, ty3, ty4, ty83, ty86, ty120, tb4, hl, hle, hb, ht, hp, hi', hmx, hmx', bin_shl, bin_shr, bin_and, bin_or, cv_iu, cv_ui, ha, wtp, c1, hr, c2, c3, eq_true c5, c6, c7]
                  rfl
              · refine ⟨?_, ?_, ?_⟩
                rotate_left 2
                · refine lim_run (fn := Tryz.f96) fn96 rfl body96 (Nat.le_of_ble_eq_true rfl) ok96 ?_
                  simp (config := { maxSteps := 1000000 }) (disch := omega) only [push_cast, ↓reduceIte, Nat.reduceEqDiff, Nat.reduceAdd, Nat.reduceLT, Nat.reduceLeDiff, Nat.reduceBEq, Nat.reduceMul, Nat.reduceSub, Int.reduceToNat, Int.reduceEq, Int.reduceLT, Int.reduceLE, Int.reduceNeg, Int.reduceAdd, Int.reduceSub, Int.reduceMul, Tryz.f96, kr96, ty3, ty4, ty83, ty86, ty120, tb4, hl, hle, hb, ht, hp, hi', hmx, hmx', bin_shl, bin_shr, bin_and, bin_or, cv_iu, cv_ui, ha, wtp, c1, hr, c2, c3, eq_true c5, c6, c7]
                  rfl
          · by_cases c6 : m < shlK .u64 1 (p - 1)
            · refine ⟨?_, ?_, ?_⟩
              rotate_left 2
              · refine lim_run (fn := Tryz.f96) fn96 rfl body96 (Nat.le_of_ble_eq_true rfl) ok96 ?_
                simp (config := { maxSteps := 1000000 }) (disch := omega) only [push_cast, ↓reduceIte, Nat.reduceEqDiff, Nat.reduceAdd, Nat.reduceLT, Nat.reduceLeDiff, Nat.reduceBEq, Nat.reduceMul, Nat.reduceSub, Int.reduceToNat, Int.reduceEq, Int.reduceLT, Int.reduceLE, Int.reduceNeg, Int.reduceAdd, Int.reduceSub, Int.reduceMul, Tryz.f96, kr96, ty3, ty4, ty83, ty86, ty120, tb4, hl, hle, hb, ht, hp, hi', hmx, hmx', bin_shl, bin_shr, bin_and, bin_or, cv_iu, cv_ui, ha, wtp, c1, hr, c2, c3, c5, c6]
                rfl
            · by_cases c7 : last + p - 1 + bi < tp
              · refine ⟨?_, ?_, ?_⟩
                rotate_left 2
                · refine lim_run (fn := Tryz.f96) fn96 rfl body96 (Nat.le_of_ble_eq_true rfl) ok96 ?_
                  simp (config := { maxSteps := 1000000 }) (disch := omega) only [push_cast, ↓reduceIte, Nat.reduceEqDiff, Nat.reduceAdd, Nat.reduceLT, Nat.reduceLeDiff, Nat.reduceBEq, Nat.reduceMul, Nat.reduceSub, Int.reduceToNat, Int.reduceEq, Int.reduceLT, Int.reduceLE, Int.reduceNeg, Int.reduceAdd, Int.reduceSub, Int.reduceMul, Tryz.f96, kr96, ty3, ty4, ty83, ty86, ty120, tb4, hl, hle, hb, ht, hp, hi', hmx, hmx', bin_shl, bin_shr, bin_and, bin_or, cv_iu, cv_ui, ha, wtp, c1, hr, c2, c3, c5, c6, c7]
                  rfl
              · refine ⟨?_, ?_, ?_⟩
                rotate_left 2
                · refine lim_run (fn := Tryz.f96) fn96 rfl body96 (Nat.le_of_ble_eq_true rfl) ok96 ?_
                  simp (config := { maxSteps := 1000000 }) (disch := omega) only [push_cast, ↓reduceIte, Nat.reduceEqDiff, Nat.reduceAdd, Nat.reduceLT, Nat.reduceLeDiff, Nat.reduceBEq, Nat.reduceMul, Nat.reduceSub, Int.reduceToNat, Int.reduceEq, Int.reduceLT, Int.reduceLE, Int.reduceNeg, Int.reduceAdd, Int.reduceSub, Int.reduceMul, Tryz.f96, kr96, ty3, ty4, ty83, ty86, ty120, tb4, hl, hle, hb, ht, hp, hi', hmx, hmx', bin_shl, bin_shr, bin_and, bin_or, cv_iu, cv_ui, ha, wtp, c1, hr, c2, c3, c5, c6, c7]
                  rfl
        · by_cases c5 : (IntKind.u64.wrap (m + 1)) = shlK .u64 1 p
          · by_cases c6 : (shrK .u64 (IntKind.u64.wrap (m + 1)) 1) < shlK .u64 1 (p - 1)
            · refine ⟨?_, ?_, ?_⟩
              rotate_left 2
              · refine lim_run (fn := Tryz.f96) fn96 rfl body96 (Nat.le_of_ble_eq_true rfl) ok96 ?_
                simp (config := { maxSteps := 1000000 }) (disch := omega) only [push_cast, ↓reduceIte, Nat.reduceEqDiff, Nat.reduceAdd, Nat.reduceLT, Nat.reduceLeDiff, Nat.reduceBEq, Nat.reduceMul, Nat.reduceSub, Int.reduceToNat, Int.reduceEq, Int.reduceLT, Int.reduceLE, Int.reduceNeg, Int.reduceAdd, Int.reduceSub, Int.reduceMul, Tryz.f96, kr96, ty3, ty4, ty83, ty86, ty120, tb4, hl, hle, hb, ht, hp, hi', hmx, hmx', bin_shl, bin_shr, bin_and, bin_or, cv_iu, cv_ui, ha, wtp, c1, hr, c2, c3, eq_true c5, c6]
                rfl
            · by_cases c7 : last + 1 + p - 1 + bi < tp
              · refine ⟨?_, ?_, ?_⟩
                rotate_left 2
                · refine lim_run (fn := Tryz.f96) fn96 rfl body96 (Nat.le_of_ble_eq_true rfl) ok96 ?_
                  simp (config := { maxSteps := 1000000 }) (disch := omega) only [push_cast, ↓reduceIte, Nat.reduceEqDiff, Nat.reduceAdd, Nat.reduceLT, Nat.reduceLeDiff, Nat.reduceBEq, Nat.reduceMul, Nat.reduceSub, Int.reduceToNat, Int.reduceEq, Int.reduceLT, Int.reduceLE, Int.reduceNeg, Int.reduceAdd, Int.reduceSub, Int.reduceMul, Tryz.f96, kr96, ty3, ty4, ty83, ty86, ty120, tb4, hl, hle, hb, ht, hp, hi', hmx, hmx', bin_shl, bin_shr, bin_and, bin_or, cv_iu, cv_ui, ha, wtp, c1, hr, c2, c3, eq_true c5, c6, c7]
                  rfl
              · refine ⟨?_, ?_, ?_⟩
                rotate_left 2
                · refine lim_run (fn := Tryz.f96) fn96 rfl body96 (Nat.le_of_ble_eq_true rfl) ok96 ?_
                  simp (config := { maxSteps := 1000000 }) (disch := omega) only [push_cast, ↓reduceIte, Nat.reduceEqDiff, Nat.reduceAdd, Nat.reduceLT, Nat.reduceLeDiff, Nat.reduceBEq, Nat.reduceMul, Nat.reduceSub, Int.reduceToNat, Int.reduceEq, Int.reduceLT, Int.reduceLE, Int.reduceNeg, Int.reduceAdd, Int.reduceSub, Int.reduceMul, Tryz.f96, kr96, ty3, ty4, ty83, ty86, ty120, tb4, hl, hle, hb, ht, hp, hi', hmx, hmx', bin_shl, bin_shr, bin_and, bin_or, cv_iu, cv_ui, ha, wtp, c1, hr, c2, c3, eq_true c5, c6, c7]
                  rfl
          · by_cases c6 : (IntKind.u64.wrap (m + 1)) < shlK .u64 1 (p - 1)
            · refine ⟨?_, ?_, ?_⟩
              rotate_left 2
              · refine lim_run (fn := Tryz.f96) fn96 rfl body96 (Nat.le_of_ble_eq_true rfl) ok96 ?_
                simp (config := { maxSteps := 1000000 }) (disch := omega) only [push_cast, ↓reduceIte, Nat.reduceEqDiff, Nat.reduceAdd, Nat.reduceLT, Nat.reduceLeDiff, Nat.reduceBEq, Nat.reduceMul, Nat.reduceSub, Int.reduceToNat, Int.reduceEq, Int.reduceLT, Int.reduceLE, Int.reduceNeg, Int.reduceAdd, Int.reduceSub, Int.reduceMul, Tryz.f96, kr96, ty3, ty4, ty83, ty86, ty120, tb4, hl, hle, hb, ht, hp, hi', hmx, hmx', bin_shl, bin_shr, bin_and, bin_or, cv_iu, cv_ui, ha, wtp, c1, hr, c2, c3, c5, c6]
                rfl
            · by_cases c7 : last + p - 1 + bi < tp
              · refine ⟨?_, ?_, ?_⟩
                rotate_left 2
                · refine lim_run (fn := Tryz.f96) fn96 rfl body96 (Nat.le_of_ble_eq_true rfl) ok96 ?_
                  simp (config := { maxSteps := 1000000 }) (disch := omega) only [push_cast, ↓reduceIte, Nat.reduceEqDiff, Nat.reduceAdd, Nat.reduceLT, Nat.reduceLeDiff, Nat.reduceBEq, Nat.reduceMul, Nat.reduceSub, Int.reduceToNat, Int.reduceEq, Int.reduceLT, Int.reduceLE, Int.reduceNeg, Int.reduceAdd, Int.reduceSub, Int.reduceMul, Tryz.f96, kr96, ty3, ty4, ty83, ty86, ty120, tb4, hl, hle, hb, ht, hp, hi', hmx, hmx', bin_shl, bin_shr, bin_and, bin_or, cv_iu, cv_ui, ha, wtp, c1, hr, c2, c3, c5, c6, c7]
                  rfl
              · refine ⟨?_, ?_, ?_⟩
                rotate_left 2
                · refine lim_run (fn := Tryz.f96) fn96 rfl body96 (Nat.le_of_ble_eq_true rfl) ok96 ?_
                  simp (config := { maxSteps := 1000000 }) (disch := omega) only [push_cast, ↓reduceIte, Nat.reduceEqDiff, Nat.reduceAdd, Nat.reduceLT, Nat.reduceLeDiff, Nat.reduceBEq, Nat.reduceMul, Nat.reduceSub, Int.reduceToNat, Int.reduceEq, Int.reduceLT, Int.reduceLE, Int.reduceNeg, Int.reduceAdd, Int.reduceSub, Int.reduceMul, Tryz.f96, kr96, ty3, ty4, ty83, ty86, ty120, tb4, hl, hle, hb, ht, hp, hi', hmx, hmx', bin_shl, bin_shr, bin_and, bin_or, cv_iu, cv_ui, ha, wtp, c1, hr, c2, c3, c5, c6, c7]
                  rfl
end Go.Proofs.YtnbijiopcgfmfaaGreat.Tev
