/- A nest's error: the document's. -/
import Derived.Test.YtopnopepcpepbaaC22c
namespace Go.Proofs.Ytopnopepcpepbaa.Tev
open Go Go.RowKit Go.Proofs Go.Proofs.Ytopnopepcpepbaa.Q
set_option linter.unusedSectionVars false
set_option maxRecDepth 100000
set_option maxHeartbeats 0
set_option linter.unusedSimpArgs false
set_option linter.unusedVariables false
theorem prod_none : ∀ {l : List TriP}, noneT l = true → prodT l = 0
  | [], h => by simp [noneT] at h
  | t :: r, h => by
    unfold noneT at h
    rw [List.any_cons, Bool.or_eq_true] at h
    rw [prodT]
    rcases h with h | h
    · rw [of_decide_eq_true h, Int.zero_mul]
    · rw [prod_none (l := r) h, Int.mul_zero]
theorem prod_some : ∀ {l : List TriP}, noneT l = false → prod1 l = prodT l
  | [], _ => rfl
  | t :: r, h => by
    unfold noneT at h
    rw [List.any_cons, Bool.or_eq_false_iff] at h
    have h1 := of_decide_eq_false h.1
    have h2 : 0 ≤ cntT t := cnt_nonneg _ _ _
    rw [prodT, prod1, prod_some (l := r) h.2]
    congr 1
    unfold mx
    split <;> omega
section
variable (q : Bool) (c : Option Nat) (l : List TriP) (b : Bool) (ca : Option Nat) (a : List Int) (x low high : Int)
theorem r_nested (hl : (l.length : Int) ≤ 9223372036854775806) (ha : (a.length : Int) ≤ 9223372036854775806) : CALL 40 [TrsT q c l, SL b ca a.length (ints a), I x, I low, I high] = some (I (nestE l a x low high), []) := by
  have h2 := rl_nested2 q c l b ca a x low high hl l 0 rfl
  have hn := fun cap => r_near false cap [x, low, high] (by show (3 : Int) ≤ _; omega)
  simp only [ints_3, List.length_cons, List.length_nil, Nat.zero_add, Nat.reduceAdd] at hn
  have hA := r_near b ca a ha
  simp only [cast1, List.length_append, List.length_cons, List.length_nil, Nat.zero_add, Nat.add_zero, Int.natCast_zero, Int.natCast_add, Int.zero_add, ints_1, ints_0, ] at h2
  unfold nestE
  refine lim_run (fn := Try.f40) fn40 rfl body40 (Nat.le_of_ble_eq_true rfl) ok40 ?_
  by_cases h0 : ∃ t ∈ l, t.2.2 = 0
  · rw [if_pos h0] at h2 ⊢
    simp (config := { maxSteps := 1000000 }) (disch := omega) only [push_cast, ↓reduceIte, Nat.reduceEqDiff, Nat.reduceAdd, Nat.reduceLT, Nat.reduceLeDiff, Nat.reduceBEq, Nat.reduceMul, Nat.reduceSub, Int.reduceToNat, Int.reduceEq, Int.reduceLT, Int.reduceLE, Int.reduceNeg, Int.reduceAdd, Int.reduceSub, Int.reduceMul, Try.f40, kr40, kp40_11, kp40_2, ow40_11, ow40_2, ty3, ty25, ty26, ty41, ty45, h2]
  · rw [if_neg h0] at h2 ⊢
    have hz : ∀ t ∈ l, t.2.2 ≠ 0 := fun t ht hz => h0 ⟨t, ht, hz⟩
    by_cases k1 : (l.length : Int) < 1
    · rw [if_neg fun h => by omega]
      simp (config := { maxSteps := 1000000 }) (disch := omega) only [push_cast, ↓reduceIte, Nat.reduceEqDiff, Nat.reduceAdd, Nat.reduceLT, Nat.reduceLeDiff, Nat.reduceBEq, Nat.reduceMul, Nat.reduceSub, Int.reduceToNat, Int.reduceEq, Int.reduceLT, Int.reduceLE, Int.reduceNeg, Int.reduceAdd, Int.reduceSub, Int.reduceMul, Try.f40, kr40, kp40_11, kp40_2, ow40_11, ow40_2, ty3, ty25, ty26, ty41, ty45, h2, k1]
    · by_cases k2 : 3 < (l.length : Int)
      · rw [if_neg fun h => by omega]
        simp (config := { maxSteps := 1000000 }) (disch := omega) only [push_cast, ↓reduceIte, Nat.reduceEqDiff, Nat.reduceAdd, Nat.reduceLT, Nat.reduceLeDiff, Nat.reduceBEq, Nat.reduceMul, Nat.reduceSub, Int.reduceToNat, Int.reduceEq, Int.reduceLT, Int.reduceLE, Int.reduceNeg, Int.reduceAdd, Int.reduceSub, Int.reduceMul, Try.f40, kr40, kp40_11, kp40_2, ow40_11, ow40_2, ty3, ty25, ty26, ty41, ty45, h2, k1, k2]
      · by_cases k3 : (a.length : Int) = l.length
        · by_cases k4 : allN [x, low, high]
          · by_cases k5 : allN a
            · have hl11 := rl_nested11 q c l (by omega) hz l 0 1 false rfl (by omega) (by simp [P3])
              simp only [Bool.false_or, Int.one_mul, Int.natCast_zero] at hl11
              by_cases k6 : ∀ t ∈ l, nearT t
              · rw [if_pos k6] at hl11
                cases hno : noneT l with
                | true =>
                  have hp := prod_none hno
                  rw [if_pos ⟨⟨by omega, by omega, by omega, k4, k5⟩, k6, by omega⟩]
                  rw [hno] at hl11
                  by_cases k7 : 2000 < prod1 l
                  · simp (config := { maxSteps := 1000000 }) (disch := omega) only [push_cast, ↓reduceIte, Nat.reduceEqDiff, Nat.reduceAdd, Nat.reduceLT, Nat.reduceLeDiff, Nat.reduceBEq, Nat.reduceMul, Nat.reduceSub, Int.reduceToNat, Int.reduceEq, Int.reduceLT, Int.reduceLE, Int.reduceNeg, Int.reduceAdd, Int.reduceSub, Int.reduceMul, Try.f40, kr40, kp40_11, kp40_2, ow40_11, ow40_2, ty3, ty25, ty26, ty41, ty45, h2, hn, hA, k1, k2, k3, k4, k5, hl11, k7]
                  · simp (config := { maxSteps := 1000000 }) (disch := omega) only [push_cast, ↓reduceIte, Nat.reduceEqDiff, Nat.reduceAdd, Nat.reduceLT, Nat.reduceLeDiff, Nat.reduceBEq, Nat.reduceMul, Nat.reduceSub, Int.reduceToNat, Int.reduceEq, Int.reduceLT, Int.reduceLE, Int.reduceNeg, Int.reduceAdd, Int.reduceSub, Int.reduceMul, Try.f40, kr40, kp40_11, kp40_2, ow40_11, ow40_2, ty3, ty25, ty26, ty41, ty45, h2, hn, hA, k1, k2, k3, k4, k5, hl11, k7]
                | false =>
                  have hp := prod_some hno
                  rw [hno, hp] at hl11
                  by_cases k7 : 2000 < prodT l
                  · rw [if_neg fun h => by omega]
                    simp (config := { maxSteps := 1000000 }) (disch := omega) only [push_cast, ↓reduceIte, Nat.reduceEqDiff, Nat.reduceAdd, Nat.reduceLT, Nat.reduceLeDiff, Nat.reduceBEq, Nat.reduceMul, Nat.reduceSub, Int.reduceToNat, Int.reduceEq, Int.reduceLT, Int.reduceLE, Int.reduceNeg, Int.reduceAdd, Int.reduceSub, Int.reduceMul, Try.f40, kr40, kp40_11, kp40_2, ow40_11, ow40_2, ty3, ty25, ty26, ty41, ty45, h2, hn, hA, k1, k2, k3, k4, k5, hl11, k7]
                  · rw [if_pos ⟨⟨by omega, by omega, by omega, k4, k5⟩, k6, by omega⟩]
                    simp (config := { maxSteps := 1000000 }) (disch := omega) only [push_cast, ↓reduceIte, Nat.reduceEqDiff, Nat.reduceAdd, Nat.reduceLT, Nat.reduceLeDiff, Nat.reduceBEq, Nat.reduceMul, Nat.reduceSub, Int.reduceToNat, Int.reduceEq, Int.reduceLT, Int.reduceLE, Int.reduceNeg, Int.reduceAdd, Int.reduceSub, Int.reduceMul, Try.f40, kr40, kp40_11, kp40_2, ow40_11, ow40_2, ty3, ty25, ty26, ty41, ty45, h2, hn, hA, k1, k2, k3, k4, k5, hl11, k7]
              · rw [if_neg k6] at hl11
                rw [if_neg fun h => k6 h.2.1]
                simp (config := { maxSteps := 1000000 }) (disch := omega) only [push_cast, ↓reduceIte, Nat.reduceEqDiff, Nat.reduceAdd, Nat.reduceLT, Nat.reduceLeDiff, Nat.reduceBEq, Nat.reduceMul, Nat.reduceSub, Int.reduceToNat, Int.reduceEq, Int.reduceLT, Int.reduceLE, Int.reduceNeg, Int.reduceAdd, Int.reduceSub, Int.reduceMul, Try.f40, kr40, kp40_11, kp40_2, ow40_11, ow40_2, ty3, ty25, ty26, ty41, ty45, h2, hn, hA, k1, k2, k3, k4, k5, hl11]
            · rw [if_neg fun h => k5 h.1.2.2.2.2]
              simp (config := { maxSteps := 1000000 }) (disch := omega) only [push_cast, ↓reduceIte, Nat.reduceEqDiff, Nat.reduceAdd, Nat.reduceLT, Nat.reduceLeDiff, Nat.reduceBEq, Nat.reduceMul, Nat.reduceSub, Int.reduceToNat, Int.reduceEq, Int.reduceLT, Int.reduceLE, Int.reduceNeg, Int.reduceAdd, Int.reduceSub, Int.reduceMul, Try.f40, kr40, kp40_11, kp40_2, ow40_11, ow40_2, ty3, ty25, ty26, ty41, ty45, h2, hn, hA, k1, k2, k3, k4, k5]
          · rw [if_neg fun h => k4 h.1.2.2.2.1]
            simp (config := { maxSteps := 1000000 }) (disch := omega) only [push_cast, ↓reduceIte, Nat.reduceEqDiff, Nat.reduceAdd, Nat.reduceLT, Nat.reduceLeDiff, Nat.reduceBEq, Nat.reduceMul, Nat.reduceSub, Int.reduceToNat, Int.reduceEq, Int.reduceLT, Int.reduceLE, Int.reduceNeg, Int.reduceAdd, Int.reduceSub, Int.reduceMul, Try.f40, kr40, kp40_11, kp40_2, ow40_11, ow40_2, ty3, ty25, ty26, ty41, ty45, h2, hn, hA, k1, k2, k3, k4]
        · rw [if_neg fun h => by omega]
          simp (config := { maxSteps := 1000000 }) (disch := omega) only [push_cast, ↓reduceIte, Nat.reduceEqDiff, Nat.reduceAdd, Nat.reduceLT, Nat.reduceLeDiff, Nat.reduceBEq, Nat.reduceMul, Nat.reduceSub, Int.reduceToNat, Int.reduceEq, Int.reduceLT, Int.reduceLE, Int.reduceNeg, Int.reduceAdd, Int.reduceSub, Int.reduceMul, Try.f40, kr40, kp40_11, kp40_2, ow40_11, ow40_2, ty3, ty25, ty26, ty41, ty45, h2, hn, hA, k1, k2, k3]
end
end Go.Proofs.Ytopnopepcpepbaa.Tev
