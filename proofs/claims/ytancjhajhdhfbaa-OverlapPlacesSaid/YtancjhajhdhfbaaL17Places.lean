/- The law OverlapPlaces: what it returns for any input. -/
import Derived.Test.YtancjhajhdhfbaaC17u
import Derived.Test.YtancjhajhdhfbaaC17v
import Derived.Test.YtancjhajhdhfbaaTevRow
namespace Go.Proofs.Ytancjhajhdhfbaa.Tev
open Go Go.RowKit Go.Proofs Go.Proofs.Ytancjhajhdhfbaa.Q
set_option linter.unusedSectionVars false
set_option maxRecDepth 100000
set_option maxHeartbeats 0
set_option linter.unusedSimpArgs false
set_option linter.unusedVariables false
section
variable (ar a : Int) (b1 b2 b3 : Bool) (c1 c2 c3 : Option Nat) (E S : List Int) (ar' b : Int) (S' : List Int)
theorem OverlapPlaces_true' (n : Int) : CALL2 6 [SL b1 c1 E.length (ints E), Rf ar a b2 c2 S, I n] = some (B true, []) := by
  have hL := fun b c => old2 (by decide) (l17_isLarge b c E)
  have hG := fun b2 b3 c2 c3 => old2 (by decide) (l17_isLong ar a b2 b3 c2 c3 S ar a S)
  refine lim_run (fn := Try.f6) fn6 (pr2_none (by decide) _) body6 (Nat.le_of_ble_eq_true rfl) ok6 ?_
  by_cases h1 : 80 < manyQ E ∨ 50 < (E.length : Int)
  · simp (config := { maxSteps := 1000000 }) (disch := omega) only [push_cast, ↓reduceIte, Nat.reduceEqDiff, Nat.reduceAdd, Nat.reduceLT, Nat.reduceLeDiff, Nat.reduceBEq, Nat.reduceMul, Nat.reduceSub, Int.reduceToNat, Int.reduceEq, Int.reduceLT, Int.reduceLE, Int.reduceNeg, Int.reduceAdd, Int.reduceSub, Int.reduceMul, Try.f6, kr6, ty3, ty4, ty22, ty24, tb4, hL, h1, s2_Awake]
  · by_cases h2 : 50 < (S.length : Int)
    · simp (config := { maxSteps := 1000000 }) (disch := omega) only [push_cast, ↓reduceIte, Nat.reduceEqDiff, Nat.reduceAdd, Nat.reduceLT, Nat.reduceLeDiff, Nat.reduceBEq, Nat.reduceMul, Nat.reduceSub, Int.reduceToNat, Int.reduceEq, Int.reduceLT, Int.reduceLE, Int.reduceNeg, Int.reduceAdd, Int.reduceSub, Int.reduceMul, Try.f6, kr6, ty3, ty4, ty22, ty24, tb4, hL, hG, h1, h2, s2_Awake, or_self]
    · have h3 : (E.length : Int) ≤ 50 := by omega
      have h4 : (S.length : Int) ≤ 50 := by omega
      have g1 := fun b1 b2 c1 c2 => old2 (by decide) (o_Places ar a b1 b2 c1 c2 E S (by omega) (by omega))
      have g2 := fun b1 b2 c1 c2 => old2 (by decide) (r17_Places ar a b1 b2 c1 c2 E S)
      have g3 := fun b1 b2 c1 c2 => old2 (by decide) (o_Inside ar a b1 b2 c1 c2 E S n (by omega) (by omega))
      have g4 := fun b1 b2 c1 c2 => old2 (by decide) (r17_Inside ar a b1 b2 c1 c2 E S n)
      have g5 := fun b1 b2 c1 c2 => up2 (by decide) (s1_Twice ar a b1 b2 c1 c2 E S (by omega) (by omega))
      have g6 := fun b1 b2 c1 c2 => old2 (by decide) (r17_Twice ar a b1 b2 c1 c2 E S)
      have g7 := fun b1 b2 c1 c2 => old2 (by decide) (o_Valid ar a b1 b2 c1 c2 E S (by omega) (by omega))
      have g8 := fun b1 b2 c1 c2 => old2 (by decide) (r17_Valid ar a b1 b2 c1 c2 E S)
      have hle := placesR_le a E S
      have g9 := fun b b' c c' => old2 (by decide) (r17_SameInts b b' c c' (placesR a E S) (placesR a E S) (by omega))
      have hr : rowAt (ints (placesR a E S)) 0 (placesR a E S).length = ints (placesR a E S) := rowAt_all _ _ (by rw [ints_len])
      generalize insideQ a E S n = X at *
      generalize (decide ¬ (placesR a E S).Nodup) = Y at *
      generalize errR a E S = e at *
      generalize (decide (okR a E S)) = Z at *
      rw [show decide (placesR a E S = placesR a E S) = true from decide_eq_true rfl] at g9
      generalize placesR a E S = p at *
      simp (config := { maxSteps := 1000000 }) (disch := omega) only [push_cast, ↓reduceIte, Nat.reduceEqDiff, Nat.reduceAdd, Nat.reduceLT, Nat.reduceLeDiff, Nat.reduceBEq, Nat.reduceMul, Nat.reduceSub, Int.reduceToNat, Int.reduceEq, Int.reduceLT, Int.reduceLE, Int.reduceNeg, Int.reduceAdd, Int.reduceSub, Int.reduceMul, Try.f6, kr6, ty3, ty4, ty22, ty24, tb4, hL, hG, h1, h2, g1, g2, g3, g4, g5, g6, g7, g8, g9, hr, s2_Awake, or_self]
end
theorem OverlapPlaces_true (x : List Int) (y : Int × Int × List Int) (n : Int) (hx : x.length * 8 ≤ 140737488351232 ∧ ∀ n ∈ x, -9223372036854775808 ≤ n ∧ n ≤ 9223372036854775807)
    (hy : (-9223372036854775808 ≤ y.1 ∧ y.1 ≤ 9223372036854775807) ∧ (-9223372036854775808 ≤ y.2.1 ∧ y.2.1 ≤ 9223372036854775807) ∧ (y.2.2.length * 8 ≤ 140737488351232 ∧ ∀ n ∈ y.2.2, -9223372036854775808 ≤ n ∧ n ≤ 9223372036854775807))
    (hn : -9223372036854775808 ≤ n ∧ n ≤ 9223372036854775807) :
    CALL2 6 [.c (.s none x.length (ints x)), .agg [I y.1, I y.2.1, .c (.s none y.2.2.length (ints y.2.2))], I n] = some (B true, []) :=
  OverlapPlaces_true' y.1 y.2.1 true true none none x y.2.2 n
end Go.Proofs.Ytancjhajhdhfbaa.Tev
