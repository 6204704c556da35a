/- The sizes that the laws ask of. -/
import Derived.Test.YtancjhajhdhfbaaC17e
namespace Go.Proofs.Ytancjhajhdhfbaa.Tev
open Go Go.RowKit Go.Proofs Go.Proofs.Ytancjhajhdhfbaa.Q
set_option linter.unusedSectionVars false
set_option maxRecDepth 100000
set_option maxHeartbeats 0
set_option linter.unusedSimpArgs false
set_option linter.unusedVariables false
theorem l17_isLarge (b : Bool) (c : Option Nat) (E : List Int) : CALL 9 [SL b c E.length (ints E)] = some (B (decide (80 < manyQ E ∨ 50 < (E.length : Int))), []) := by
  have hT := fun b c => r17_Turns b c E
  refine lim_run (fn := Try.f9) fn9 rfl body9 (Nat.le_of_ble_eq_true rfl) ok9 ?_
  by_cases h : 80 < manyQ E
  · simp (config := { maxSteps := 1000000 }) (disch := omega) only [push_cast, ↓reduceIte, Nat.reduceEqDiff, Nat.reduceAdd, Nat.reduceLT, Nat.reduceLeDiff, Nat.reduceBEq, Nat.reduceMul, Nat.reduceSub, Int.reduceToNat, Int.reduceEq, Int.reduceLT, Int.reduceLE, Int.reduceNeg, Int.reduceAdd, Int.reduceSub, Int.reduceMul, Try.f9, kr9, ty3, ty4, ty22, tb4, hT, h, true_or]
  · simp (config := { maxSteps := 1000000 }) (disch := omega) only [push_cast, ↓reduceIte, Nat.reduceEqDiff, Nat.reduceAdd, Nat.reduceLT, Nat.reduceLeDiff, Nat.reduceBEq, Nat.reduceMul, Nat.reduceSub, Int.reduceToNat, Int.reduceEq, Int.reduceLT, Int.reduceLE, Int.reduceNeg, Int.reduceAdd, Int.reduceSub, Int.reduceMul, Try.f9, kr9, ty3, ty4, ty22, tb4, hT, h, false_or]
theorem l17_isLong (ar a : Int) (b2 b3 : Bool) (c2 c3 : Option Nat) (S : List Int) (ar' b : Int) (S' : List Int) : CALL 10 [Rf ar a b2 c2 S, Rf ar' b b3 c3 S'] = some (B (decide (50 < (S.length : Int) ∨ 50 < (S'.length : Int))), []) := by
  refine lim_run (fn := Try.f10) fn10 rfl body10 (Nat.le_of_ble_eq_true rfl) ok10 ?_
  by_cases h : 50 < (S.length : Int)
  · simp (config := { maxSteps := 1000000 }) (disch := omega) only [push_cast, ↓reduceIte, Nat.reduceEqDiff, Nat.reduceAdd, Nat.reduceLT, Nat.reduceLeDiff, Nat.reduceBEq, Nat.reduceMul, Nat.reduceSub, Int.reduceToNat, Int.reduceEq, Int.reduceLT, Int.reduceLE, Int.reduceNeg, Int.reduceAdd, Int.reduceSub, Int.reduceMul, Try.f10, kr10, ty3, ty4, ty22, ty24, tb4, h, true_or]
  · simp (config := { maxSteps := 1000000 }) (disch := omega) only [push_cast, ↓reduceIte, Nat.reduceEqDiff, Nat.reduceAdd, Nat.reduceLT, Nat.reduceLeDiff, Nat.reduceBEq, Nat.reduceMul, Nat.reduceSub, Int.reduceToNat, Int.reduceEq, Int.reduceLT, Int.reduceLE, Int.reduceNeg, Int.reduceAdd, Int.reduceSub, Int.reduceMul, Try.f10, kr10, ty3, ty4, ty22, ty24, tb4, h, false_or]
/-- The document's Inside. -/
theorem rl_Inside3 (p : List Int) (n e : Int) (hb : p.length ≤ 400) (c1 : Option Nat) : ∀ (r : List Int) (i : Nat), p.drop i = r →
    lp E0 pr0 25 3 ⟨[(2, I n), (8, .sl 0 0 p.length 1 c1), (9, I e), (10, I i)], [(0, .arr (ints p) 0 1)], 1⟩ =
      if ∀ x ∈ r, 0 ≤ x ∧ x < n then some (.exit 0, ⟨[(9, I e)], [], 0⟩) else some (.ret, ⟨[(6, B false), (7, I e)], [], 0⟩) := by
  intro r
  induction r with
  | nil =>
    intro i h1
    have h5 := drop_nil h1
    have h6 : ¬ (i : Int) < p.length := by omega
    rw [if_pos (fun x hx => by simp at hx)]
    rw [lp_eq lp25_3]
    simp (config := { maxSteps := 1000000 }) (disch := omega) only [push_cast, ↓reduceIte, Nat.reduceEqDiff, Nat.reduceAdd, Nat.reduceLT, Nat.reduceLeDiff, Nat.reduceBEq, Nat.reduceMul, Nat.reduceSub, Int.reduceToNat, Int.reduceEq, Int.reduceLT, Int.reduceLE, Int.reduceNeg, Int.reduceAdd, Int.reduceSub, Int.reduceMul, Try.f25, kr25, kp25_3, ow25_3, ty3, ty4, ty22, ty24, ty29, tb4, h6]
  | cons x r ih =>
    intro i h1
    obtain ⟨g1, g2, g3⟩ := drop_cons h1
    have g8 : (i : Int) < p.length := by omega
    have ih' := ih (i + 1) g3
    simp only [cast1, List.length_append, List.length_cons, List.length_nil, Nat.zero_add, Nat.add_zero, Int.natCast_zero, Int.natCast_add, Int.zero_add, ints_1, ints_0, ] at ih'
    have e1 : (∀ z ∈ x :: r, 0 ≤ z ∧ z < n) ↔ (0 ≤ x ∧ x < n) ∧ ∀ z ∈ r, 0 ≤ z ∧ z < n := by simp
    rw [lp_eq lp25_3]
    by_cases q1 : x < 0
    · rw [if_neg fun h => by have := (e1.1 h).1; omega]
      simp (config := { maxSteps := 1000000 }) (disch := omega) only [push_cast, ↓reduceIte, Nat.reduceEqDiff, Nat.reduceAdd, Nat.reduceLT, Nat.reduceLeDiff, Nat.reduceBEq, Nat.reduceMul, Nat.reduceSub, Int.reduceToNat, Int.reduceEq, Int.reduceLT, Int.reduceLE, Int.reduceNeg, Int.reduceAdd, Int.reduceSub, Int.reduceMul, Try.f25, kr25, kp25_3, ow25_3, ty3, ty4, ty22, ty24, ty29, tb4, g1, g8, getD_of g2, q1]
    · by_cases q2 : n ≤ x
      · rw [if_neg fun h => by have := (e1.1 h).1; omega]
        simp (config := { maxSteps := 1000000 }) (disch := omega) only [push_cast, ↓reduceIte, Nat.reduceEqDiff, Nat.reduceAdd, Nat.reduceLT, Nat.reduceLeDiff, Nat.reduceBEq, Nat.reduceMul, Nat.reduceSub, Int.reduceToNat, Int.reduceEq, Int.reduceLT, Int.reduceLE, Int.reduceNeg, Int.reduceAdd, Int.reduceSub, Int.reduceMul, Try.f25, kr25, kp25_3, ow25_3, ty3, ty4, ty22, ty24, ty29, tb4, g1, g8, getD_of g2, q1, q2]
      · by_cases q3 : ∀ z ∈ r, 0 ≤ z ∧ z < n
        · rw [if_pos (e1.2 ⟨by omega, q3⟩)]
          rw [if_pos q3] at ih'
          simp (config := { maxSteps := 1000000 }) (disch := omega) only [push_cast, ↓reduceIte, Nat.reduceEqDiff, Nat.reduceAdd, Nat.reduceLT, Nat.reduceLeDiff, Nat.reduceBEq, Nat.reduceMul, Nat.reduceSub, Int.reduceToNat, Int.reduceEq, Int.reduceLT, Int.reduceLE, Int.reduceNeg, Int.reduceAdd, Int.reduceSub, Int.reduceMul, Try.f25, kr25, kp25_3, ow25_3, ty3, ty4, ty22, ty24, ty29, tb4, g1, g8, getD_of g2, q1, q2, ih']
        · rw [if_neg fun h => q3 (e1.1 h).2]
          rw [if_neg q3] at ih'
          simp (config := { maxSteps := 1000000 }) (disch := omega) only [push_cast, ↓reduceIte, Nat.reduceEqDiff, Nat.reduceAdd, Nat.reduceLT, Nat.reduceLeDiff, Nat.reduceBEq, Nat.reduceMul, Nat.reduceSub, Int.reduceToNat, Int.reduceEq, Int.reduceLT, Int.reduceLE, Int.reduceNeg, Int.reduceAdd, Int.reduceSub, Int.reduceMul, Try.f25, kr25, kp25_3, ow25_3, ty3, ty4, ty22, ty24, ty29, tb4, g1, g8, getD_of g2, q1, q2, ih']
section
variable (ar base : Int) (b1 b2 b3 : Bool) (c1 c2 c3 : Option Nat) (E S : List Int) (ar' base' : Int) (S' : List Int)
theorem r17_Inside (n : Int) : CALL 25 [SL b1 c1 E.length (ints E), Rf ar base b2 c2 S, I n] = some (.tup [B (insideQ base E S n), I (errR base E S)], []) := by
  have hp := fun b c b' c' => r17_Places ar base b b' c c' E S
  have hle := placesR_le base E S
  have hl := rl_Inside3 (placesR base E S) n (errR base E S) hle none (placesR base E S) 0 rfl
  simp only [cast1, List.length_append, List.length_cons, List.length_nil, Nat.zero_add, Nat.add_zero, Int.natCast_zero, Int.natCast_add, Int.zero_add, ints_1, ints_0, ] at hl
  refine lim_run (fn := Try.f25) fn25 rfl body25 (Nat.le_of_ble_eq_true rfl) ok25 ?_
  by_cases h : okR base E S
  · rw [show errR base E S = 0 from if_pos h] at *
    by_cases q : ∀ x ∈ placesR base E S, 0 ≤ x ∧ x < n
    · rw [show insideQ base E S n = true from decide_eq_true ⟨h, q⟩]
      rw [if_pos q] at hl
      simp (config := { maxSteps := 1000000 }) (disch := omega) only [push_cast, ↓reduceIte, Nat.reduceEqDiff, Nat.reduceAdd, Nat.reduceLT, Nat.reduceLeDiff, Nat.reduceBEq, Nat.reduceMul, Nat.reduceSub, Int.reduceToNat, Int.reduceEq, Int.reduceLT, Int.reduceLE, Int.reduceNeg, Int.reduceAdd, Int.reduceSub, Int.reduceMul, Try.f25, kr25, kp25_3, ow25_3, ty3, ty4, ty22, ty24, ty29, tb4, hp, hl]
    · rw [show insideQ base E S n = false from decide_eq_false fun k => q k.2]
      rw [if_neg q] at hl
      simp (config := { maxSteps := 1000000 }) (disch := omega) only [push_cast, ↓reduceIte, Nat.reduceEqDiff, Nat.reduceAdd, Nat.reduceLT, Nat.reduceLeDiff, Nat.reduceBEq, Nat.reduceMul, Nat.reduceSub, Int.reduceToNat, Int.reduceEq, Int.reduceLT, Int.reduceLE, Int.reduceNeg, Int.reduceAdd, Int.reduceSub, Int.reduceMul, Try.f25, kr25, kp25_3, ow25_3, ty3, ty4, ty22, ty24, ty29, tb4, hp, hl]
  · rw [show errR base E S = 2 from if_neg h] at *
    rw [show placesR base E S = [] from if_neg h] at hp hl
    rw [if_pos (fun x hx => by simp at hx)] at hl
    rw [show insideQ base E S n = false from decide_eq_false fun k => h k.1]
    simp only [List.length_nil, ints_0, Int.natCast_zero] at hp hl
    simp (config := { maxSteps := 1000000 }) (disch := omega) only [push_cast, ↓reduceIte, Nat.reduceEqDiff, Nat.reduceAdd, Nat.reduceLT, Nat.reduceLeDiff, Nat.reduceBEq, Nat.reduceMul, Nat.reduceSub, Int.reduceToNat, Int.reduceEq, Int.reduceLT, Int.reduceLE, Int.reduceNeg, Int.reduceAdd, Int.reduceSub, Int.reduceMul, Try.f25, kr25, kp25_3, ow25_3, ty3, ty4, ty22, ty24, ty29, tb4, hp, hl]
end
end Go.Proofs.Ytancjhajhdhfbaa.Tev
