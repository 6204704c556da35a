/- The law OverlapPairs: what it returns for any input. -/
import Derived.Test.YtancjhajhdhfbaaC17u
import Derived.Test.YtancjhajhdhfbaaC17y
import Derived.Test.YtancjhajhdhfbaaTevRow
namespace Go.Proofs.Ytancjhajhdhfbaa.Tev
open Go Go.RowKit Go.Proofs Go.Proofs.Ytancjhajhdhfbaa.Q
set_option linter.unusedSectionVars false
set_option maxRecDepth 100000
set_option maxHeartbeats 0
set_option linter.unusedSimpArgs false
set_option linter.unusedVariables false
section
variable (ar a : Int) (b1 b2 b3 : Bool) (c1 c2 c3 : Option Nat) (E S : List Int) (ar' b : Int) (S' : List Int)
theorem OverlapPairs_true' : CALL2 3 [SL b1 c1 E.length (ints E), Rf ar a b2 c2 S, Rf ar' b b3 c3 S'] = some (B true, []) := by
  have hL := fun b c => old2 (by decide) (l17_isLarge b c E)
  have hG := fun b2 b3 c2 c3 => old2 (by decide) (l17_isLong ar a b2 b3 c2 c3 S ar' b S')
  refine lim_run (fn := Try.f3) fn3 (pr2_none (by decide) _) body3 (Nat.le_of_ble_eq_true rfl) ok3 ?_
  by_cases h1 : 80 < manyQ E ∨ 50 < (E.length : Int)
  · simp (config := { maxSteps := 1000000 }) (disch := omega) only [push_cast, ↓reduceIte, Nat.reduceEqDiff, Nat.reduceAdd, Nat.reduceLT, Nat.reduceLeDiff, Nat.reduceBEq, Nat.reduceMul, Nat.reduceSub, Int.reduceToNat, Int.reduceEq, Int.reduceLT, Int.reduceLE, Int.reduceNeg, Int.reduceAdd, Int.reduceSub, Int.reduceMul, Try.f3, kr3, ty3, ty4, ty22, ty24, tb4, hL, h1, s2_Awake]
  · by_cases h2 : 50 < (S.length : Int) ∨ 50 < (S'.length : Int)
    · simp (config := { maxSteps := 1000000 }) (disch := omega) only [push_cast, ↓reduceIte, Nat.reduceEqDiff, Nat.reduceAdd, Nat.reduceLT, Nat.reduceLeDiff, Nat.reduceBEq, Nat.reduceMul, Nat.reduceSub, Int.reduceToNat, Int.reduceEq, Int.reduceLT, Int.reduceLE, Int.reduceNeg, Int.reduceAdd, Int.reduceSub, Int.reduceMul, Try.f3, kr3, ty3, ty4, ty22, ty24, tb4, hL, hG, h1, h2, s2_Awake]
    · have h3 : (E.length : Int) ≤ 50 := by omega
      have h4 : (S.length : Int) ≤ 50 := by omega
      have h5 : (S'.length : Int) ≤ 50 := by omega
      have g1 := fun b1 b2 b3 c1 c2 c3 => s2_Pairs ar a b1 b2 b3 c1 c2 c3 E S ar' b S' (by omega) (by omega) (by omega)
      have g2 := fun b1 b2 b3 c1 c2 c3 => old2 (by decide) (r17_Pairs ar a b1 b2 b3 c1 c2 c3 E S ar' b S')
      have g3 := fun b1 b2 b3 c1 c2 c3 => s2_Dist ar a b1 b2 b3 c1 c2 c3 E S ar' b S' (by omega) (by omega) (by omega)
      have g4 := fun b1 b2 b3 c1 c2 c3 => old2 (by decide) (r17_Distances ar a b1 b2 b3 c1 c2 c3 E S ar' b S')
      have hl := meetL_len ar a E S ar' b S'
      have hd : (distL ar a E S ar' b S').length ≤ 801 := by rw [← dist_doc]; exact dFrom_len _ _ _
      have g5 := fun b0 b0' c c' => old2 (by decide) (r17_SamePairs b0 b0' c c' (meetL ar a E S ar' b S') (meetL ar a E S ar' b S') (by omega))
      have g6 := fun b0 b0' c c' => old2 (by decide) (r17_SameInts b0 b0' c c' (distL ar a E S ar' b S') (distL ar a E S ar' b S') (by omega))
      rw [show decide (meetL ar a E S ar' b S' = meetL ar a E S ar' b S') = true from decide_eq_true rfl] at g5
      rw [show decide (distL ar a E S ar' b S' = distL ar a E S ar' b S') = true from decide_eq_true rfl] at g6
      have r1 : rowAt (pairCs (meetL ar a E S ar' b S')) 0 ((meetL ar a E S ar' b S').length * 2) = pairCs (meetL ar a E S ar' b S') := rowAt_all _ _ (pairCs_len _).symm
      have r2 : rowAt (ints (distL ar a E S ar' b S')) 0 (distL ar a E S ar' b S').length = ints (distL ar a E S ar' b S') := rowAt_all _ _ (by rw [ints_len])
      unfold pairsRes at g1 g2
      unfold distR at g3 g4
      generalize errRR a E S b S' = e at *
      generalize distL ar a E S ar' b S' = D at *
      generalize meetL ar a E S ar' b S' = L at *
      simp (config := { maxSteps := 1000000 }) (disch := omega) only [push_cast, ↓reduceIte, Nat.reduceEqDiff, Nat.reduceAdd, Nat.reduceLT, Nat.reduceLeDiff, Nat.reduceBEq, Nat.reduceMul, Nat.reduceSub, Int.reduceToNat, Int.reduceEq, Int.reduceLT, Int.reduceLE, Int.reduceNeg, Int.reduceAdd, Int.reduceSub, Int.reduceMul, Try.f3, kr3, ty3, ty4, ty22, ty24, tb4, hL, hG, h1, h2, g1, g2, g3, g4, g5, g6, r1, r2, s2_Awake]
end
theorem OverlapPairs_true (x : List Int) (y z : Int × Int × List Int) (hx : x.length * 8 ≤ 140737488351232 ∧ ∀ n ∈ x, -9223372036854775808 ≤ n ∧ n ≤ 9223372036854775807)
    (hy : (-9223372036854775808 ≤ y.1 ∧ y.1 ≤ 9223372036854775807) ∧ (-9223372036854775808 ≤ y.2.1 ∧ y.2.1 ≤ 9223372036854775807) ∧ (y.2.2.length * 8 ≤ 140737488351232 ∧ ∀ n ∈ y.2.2, -9223372036854775808 ≤ n ∧ n ≤ 9223372036854775807))
    (hz : (-9223372036854775808 ≤ z.1 ∧ z.1 ≤ 9223372036854775807) ∧ (-9223372036854775808 ≤ z.2.1 ∧ z.2.1 ≤ 9223372036854775807) ∧ (z.2.2.length * 8 ≤ 140737488351232 ∧ ∀ n ∈ z.2.2, -9223372036854775808 ≤ n ∧ n ≤ 9223372036854775807)) :
    CALL2 3 [.c (.s none x.length (ints x)), .agg [I y.1, I y.2.1, .c (.s none y.2.2.length (ints y.2.2))], .agg [I z.1, I z.2.1, .c (.s none z.2.2.length (ints z.2.2))]] = some (B true, []) :=
  OverlapPairs_true' y.1 y.2.1 true true true none none none x y.2.2 z.1 z.2.1 z.2.2
end Go.Proofs.Ytancjhajhdhfbaa.Tev
