/- The law OverlapSafe: what it returns for any input. -/
import Derived.Test.YtancjhajhdhfbaaC17u
import Derived.Test.YtancjhajhdhfbaaC17d
import Derived.Test.YtancjhajhdhfbaaQSafe
import Derived.Test.YtancjhajhdhfbaaTevRow
namespace Go.Proofs.Ytancjhajhdhfbaa.Tev
open Go Go.RowKit Go.Proofs Go.Proofs.Ytancjhajhdhfbaa.Q
set_option linter.unusedSectionVars false
set_option maxRecDepth 100000
set_option maxHeartbeats 0
set_option linter.unusedSimpArgs false
set_option linter.unusedVariables false
section
variable (ar a : Int) (b1 b2 b3 : Bool) (c1 c2 c3 : Option Nat) (E S : List Int) (ar' b : Int) (S' : List Int)
theorem safe_meet (h : 0 < (meetL ar a E S ar' b S').length) : (decide (ar = ar') && gcdQ a E S b S') = true ∧ (decide (ar = ar') && rangeQ a E S b S') = true := by
  unfold meetL at h
  split at h
  · rename_i hc
    obtain ⟨⟨h1, h2⟩, rfl⟩ := hc
    obtain ⟨z, hz⟩ : ∃ z, z ∈ pairsQ (placesR a E S) (placesR b E S') := by
      cases hl : pairsQ (placesR a E S) (placesR b E S') with
      | nil => rw [hl] at h; simp [castP] at h
      | cons z l => exact ⟨z, by simp⟩
    obtain ⟨x, q1, q2⟩ := (pairs_mem _ _ z).1 hz
    obtain ⟨k1, k2⟩ := safe_of h1 h2 (List.mem_of_getElem? q1) (List.mem_of_getElem? q2)
    rw [k1, k2]
    simp
  · simp at h
theorem OverlapSafe_true' (h1 : (E.length : Int) ≤ 9223372036854775806) (h2 : (S.length : Int) ≤ 9223372036854775806) (h3 : (S'.length : Int) ≤ 9223372036854775806) : CALL2 8 [SL b1 c1 E.length (ints E), Rf ar a b2 c2 S, Rf ar' b b3 c3 S'] = some (B true, []) := by
  have g1 := fun b1 b2 b3 c1 c2 c3 => old2 (by decide) (o_Gcd ar a b1 b2 b3 c1 c2 c3 E S ar' b S' h1 h2 h3)
  have g2 := fun b1 b2 b3 c1 c2 c3 => old2 (by decide) (o_Range ar a b1 b2 b3 c1 c2 c3 E S ar' b S' h1 h2 h3)
  have g3 := fun b1 b2 b3 c1 c2 c3 => s2_Meet ar a b1 b2 b3 c1 c2 c3 E S ar' b S' h1 h2 h3
  have hs := safe_meet ar a E S ar' b S'
  refine lim_run (fn := Try.f8) fn8 (pr2_none (by decide) _) body8 (Nat.le_of_ble_eq_true rfl) ok8 ?_
  by_cases q : 0 < (meetL ar a E S ar' b S').length
  · obtain ⟨k1, k2⟩ := hs q
    rw [k1] at g1
    rw [k2] at g2
    rw [decide_eq_true q] at g3
    simp (config := { maxSteps := 1000000 }) (disch := omega) only [push_cast, ↓reduceIte, Nat.reduceEqDiff, Nat.reduceAdd, Nat.reduceLT, Nat.reduceLeDiff, Nat.reduceBEq, Nat.reduceMul, Nat.reduceSub, Int.reduceToNat, Int.reduceEq, Int.reduceLT, Int.reduceLE, Int.reduceNeg, Int.reduceAdd, Int.reduceSub, Int.reduceMul, Try.f8, kr8, ty3, ty4, ty22, ty24, tb4, g1, g2, g3, s2_Awake, ne_eq]
  · rw [decide_eq_false q] at g3
    generalize (decide (ar = ar') && gcdQ a E S b S') = X at *
    generalize (decide (ar = ar') && rangeQ a E S b S') = Y at *
    generalize errRR a E S b S' = e at *
    cases X <;> cases Y <;> simp (config := { maxSteps := 1000000 }) (disch := omega) only [push_cast, ↓reduceIte, Nat.reduceEqDiff, Nat.reduceAdd, Nat.reduceLT, Nat.reduceLeDiff, Nat.reduceBEq, Nat.reduceMul, Nat.reduceSub, Int.reduceToNat, Int.reduceEq, Int.reduceLT, Int.reduceLE, Int.reduceNeg, Int.reduceAdd, Int.reduceSub, Int.reduceMul, Try.f8, kr8, ty3, ty4, ty22, ty24, tb4, g1, g2, g3, s2_Awake, ne_eq]
end
theorem OverlapSafe_true (x : List Int) (y z : Int × Int × List Int) (hx : x.length * 8 ≤ 140737488351232 ∧ ∀ n ∈ x, -9223372036854775808 ≤ n ∧ n ≤ 9223372036854775807)
    (hy : (-9223372036854775808 ≤ y.1 ∧ y.1 ≤ 9223372036854775807) ∧ (-9223372036854775808 ≤ y.2.1 ∧ y.2.1 ≤ 9223372036854775807) ∧ (y.2.2.length * 8 ≤ 140737488351232 ∧ ∀ n ∈ y.2.2, -9223372036854775808 ≤ n ∧ n ≤ 9223372036854775807))
    (hz : (-9223372036854775808 ≤ z.1 ∧ z.1 ≤ 9223372036854775807) ∧ (-9223372036854775808 ≤ z.2.1 ∧ z.2.1 ≤ 9223372036854775807) ∧ (z.2.2.length * 8 ≤ 140737488351232 ∧ ∀ n ∈ z.2.2, -9223372036854775808 ≤ n ∧ n ≤ 9223372036854775807)) :
    CALL2 8 [.c (.s none x.length (ints x)), .agg [I y.1, I y.2.1, .c (.s none y.2.2.length (ints y.2.2))], .agg [I z.1, I z.2.1, .c (.s none z.2.2.length (ints z.2.2))]] = some (B true, []) :=
  OverlapSafe_true' y.1 y.2.1 true true true none none none x y.2.2 z.1 z.2.1 z.2.2 (by have := hx.1; omega) (by have := hy.2.2.1; omega) (by have := hz.2.2.1; omega)
end Go.Proofs.Ytancjhajhdhfbaa.Tev
