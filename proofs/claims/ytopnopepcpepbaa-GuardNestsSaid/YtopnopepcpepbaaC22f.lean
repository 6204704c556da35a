/- guard.nest. -/
import Derived.Test.YtopnopepcpepbaaC22e
namespace Go.Proofs.Ytopnopepcpepbaa.Tev
open Go Go.RowKit Go.Proofs Go.Proofs.Ytopnopepcpepbaa.Q
set_option linter.unusedSectionVars false
set_option maxRecDepth 100000
set_option maxHeartbeats 0
set_option linter.unusedSimpArgs false
set_option linter.unusedVariables false
section
variable (q : Bool) (c : Option Nat) (l : List TriP) (b : Bool) (ca : Option Nat) (a : List Int) (x low high : Int)
theorem l_nest7 (hl : l.length ≤ 3) (hz : ∀ t ∈ l, t.2.2 ≠ 0) : ∀ (r : List TriP) (i : Nat) (n : Int), l.drop i = r → 0 ≤ n → n ≤ G3 i →
    lp E0 pr0 39 7 ⟨[(7, I n), (37, TrsT q c l), (38, I l.length), (39, I i)], [], 0⟩ =
      if ∀ t ∈ r, nearT t then some (.exit 0, ⟨[(7, I (n * prodG r))], [], 0⟩) else some (.ret, ⟨[(6, I 2)], [], 0⟩) := by
  intro r
  induction r with
  | nil =>
    intro i n h1 h2 h3
    have h5 := drop_nil h1
    have h6 : ¬ (i : Int) < l.length := by omega
    rw [if_pos (show ∀ t ∈ ([] : List TriP), nearT t from fun t ht => by simp at ht)]
    rw [lp_eq lp39_7]
    simp (config := { maxSteps := 1000000 }) (disch := omega) only [push_cast, ↓reduceIte, Nat.reduceEqDiff, Nat.reduceAdd, Nat.reduceLT, Nat.reduceLeDiff, Nat.reduceBEq, Nat.reduceMul, Nat.reduceSub, Int.reduceToNat, Int.reduceEq, Int.reduceLT, Int.reduceLE, Int.reduceNeg, Int.reduceAdd, Int.reduceSub, Int.reduceMul, Try.f39, kr39, kp39_7, ow39_7, ty3, ty25, ty26, ty41, ty45, h6, prodG, Int.mul_one]
  | cons t r ih =>
    intro i n h1 h2 h3
    obtain ⟨g1, g2, g3⟩ := drop_cons h1
    have g8 : (i : Int) < l.length := by omega
    have hn := fun cap => c_isNumber1 false cap [t.1, t.2.1, t.2.2] (by show (3 : Int) ≤ _; omega)
    simp only [ints_3, List.length_cons, List.length_nil, Nat.zero_add, Nat.reduceAdd] at hn
    have e : allN [t.1, t.2.1, t.2.2] ↔ nearT t := by unfold allN nearT; simp
    rw [lp_eq lp39_7]
    by_cases hx : nearT t
    · have h0 := hz t (List.mem_of_getElem? g2)
      have ht := c_turns t.1 t.2.1 t.2.2
      rw [if_pos (okT_near h0 hx.1 hx.2.1 hx.2.2)] at ht
      obtain ⟨b0, b1⟩ := cntT_bd h0 hx
      have m1 : 0 ≤ mn (cntT t) 2001 := by unfold mn; split <;> omega
      have m2 : mn (cntT t) 2001 ≤ 2001 := by unfold mn; split <;> omega
      obtain ⟨p0, p1⟩ := G3_step (n := i) (by omega) h2 h3 m1 m2
      have p2 := G3_le (i + 1)
      have ih' := ih (i + 1) (n * mn (cntT t) 2001) g3 p0 p1
      simp only [cast1, List.length_append, List.length_cons, List.length_nil, Nat.zero_add, Nat.add_zero, Int.natCast_zero, Int.natCast_add, Int.zero_add, ints_1, ints_0, ] at ih'
      change CALL _ _ = some (I (cntT t), []) at ht
      rw [decide_eq_true (e.2 hx)] at hn
      have eP : n * mn (cntT t) 2001 * prodG r = n * prodG (t :: r) := by rw [prodG, Int.mul_assoc]
      have eI : (if ∀ u ∈ t :: r, nearT u then some (Ex.exit 0, (⟨[(7, I (n * prodG (t :: r)))], [], 0⟩ : St)) else some (Ex.ret, ⟨[(6, I 2)], [], 0⟩)) =
          if ∀ u ∈ r, nearT u then some (Ex.exit 0, ⟨[(7, I (n * prodG (t :: r)))], [], 0⟩) else some (Ex.ret, ⟨[(6, I 2)], [], 0⟩) := by
        by_cases hr : ∀ u ∈ r, nearT u
        · rw [if_pos hr, if_pos (fun u hu => by rcases List.mem_cons.1 hu with rfl | hu; exact hx; exact hr u hu)]
        · rw [if_neg hr, if_neg fun h => hr fun u hu => h u (by simp [hu])]
      rw [eP] at ih'
      rw [eI]
      simp (config := { maxSteps := 1000000 }) (disch := omega) only [push_cast, ↓reduceIte, Nat.reduceEqDiff, Nat.reduceAdd, Nat.reduceLT, Nat.reduceLeDiff, Nat.reduceBEq, Nat.reduceMul, Nat.reduceSub, Int.reduceToNat, Int.reduceEq, Int.reduceLT, Int.reduceLE, Int.reduceNeg, Int.reduceAdd, Int.reduceSub, Int.reduceMul, Try.f39, kr39, kp39_7, ow39_7, ty3, ty25, ty26, ty41, ty45, g1, g8, tr0 g2, tr1 g2, tr2 g2, hn, ht, ih']
    · rw [decide_eq_false (fun h => hx (e.1 h))] at hn
      rw [if_neg fun h => hx (h t (by simp))]
      simp (config := { maxSteps := 1000000 }) (disch := omega) only [push_cast, ↓reduceIte, Nat.reduceEqDiff, Nat.reduceAdd, Nat.reduceLT, Nat.reduceLeDiff, Nat.reduceBEq, Nat.reduceMul, Nat.reduceSub, Int.reduceToNat, Int.reduceEq, Int.reduceLT, Int.reduceLE, Int.reduceNeg, Int.reduceAdd, Int.reduceSub, Int.reduceMul, Try.f39, kr39, kp39_7, ow39_7, ty3, ty25, ty26, ty41, ty45, g1, g8, tr0 g2, tr1 g2, tr2 g2, hn]
theorem c_nest (br : Bool) (cr : Option Nat) (hl : (l.length : Int) ≤ 9223372036854775806) (ha : (a.length : Int) ≤ 9223372036854775806) : CALL 39 [TrsT q c l, SL b ca a.length (ints a), SL br cr 3 [CI x, CI low, CI high]] = some (I (nestE l a x low high), []) := by
  have h2 := c_ContainsFuncT 47 [] _ c_nest1 shut_nil q c l hl
  have hn := c_isNumber1 br cr [x, low, high] (by show (3 : Int) ≤ _; omega)
  simp only [ints_3, List.length_cons, List.length_nil, Nat.zero_add, Nat.reduceAdd] at hn
  have hA := c_isNumber1 b ca a ha
  have e0 : (l.any fun t => decide (t.2.2 = 0)) = decide (∃ t ∈ l, t.2.2 = 0) := by rw [Bool.eq_iff_iff]; simp
  rw [e0] at h2
  unfold nestE
  refine lim_run (fn := Try.f39) fn39 rfl body39 (Nat.le_of_ble_eq_true rfl) ok39 ?_
  by_cases h0 : ∃ t ∈ l, t.2.2 = 0
  · rw [decide_eq_true h0] at h2
    rw [if_pos h0]
    simp (config := { maxSteps := 1000000 }) (disch := omega) only [push_cast, ↓reduceIte, Nat.reduceEqDiff, Nat.reduceAdd, Nat.reduceLT, Nat.reduceLeDiff, Nat.reduceBEq, Nat.reduceMul, Nat.reduceSub, Int.reduceToNat, Int.reduceEq, Int.reduceLT, Int.reduceLE, Int.reduceNeg, Int.reduceAdd, Int.reduceSub, Int.reduceMul, Try.f39, kr39, kp39_7, ow39_7, ty3, ty25, ty26, ty41, ty45, h2]
  · rw [decide_eq_false h0] at h2
    rw [if_neg h0]
    have hz : ∀ t ∈ l, t.2.2 ≠ 0 := fun t ht hz => h0 ⟨t, ht, hz⟩
    by_cases k1 : (l.length : Int) < 1
    · rw [if_neg fun h => by omega]
      simp (config := { maxSteps := 1000000 }) (disch := omega) only [push_cast, ↓reduceIte, Nat.reduceEqDiff, Nat.reduceAdd, Nat.reduceLT, Nat.reduceLeDiff, Nat.reduceBEq, Nat.reduceMul, Nat.reduceSub, Int.reduceToNat, Int.reduceEq, Int.reduceLT, Int.reduceLE, Int.reduceNeg, Int.reduceAdd, Int.reduceSub, Int.reduceMul, Try.f39, kr39, kp39_7, ow39_7, ty3, ty25, ty26, ty41, ty45, h2, k1]
    · by_cases k2 : 3 < (l.length : Int)
      · rw [if_neg fun h => by omega]
        simp (config := { maxSteps := 1000000 }) (disch := omega) only [push_cast, ↓reduceIte, Nat.reduceEqDiff, Nat.reduceAdd, Nat.reduceLT, Nat.reduceLeDiff, Nat.reduceBEq, Nat.reduceMul, Nat.reduceSub, Int.reduceToNat, Int.reduceEq, Int.reduceLT, Int.reduceLE, Int.reduceNeg, Int.reduceAdd, Int.reduceSub, Int.reduceMul, Try.f39, kr39, kp39_7, ow39_7, ty3, ty25, ty26, ty41, ty45, h2, k1, k2]
      · by_cases k3 : (a.length : Int) = l.length
        · by_cases k4 : allN [x, low, high]
          · by_cases k5 : allN a
            · have hl7 := l_nest7 q c l (by omega) hz l 0 1 rfl (by omega) (by simp [G3])
              simp only [Int.one_mul, Int.natCast_zero] at hl7
              by_cases k6 : ∀ t ∈ l, nearT t
              · rw [if_pos k6] at hl7
                have key : 2000 < prodG l ↔ 2000 < prodT l := by
                  cases hno : noneT l with
                  | true => rw [prodG_none hno, prod_none hno]
                  | false => exact (prodG_iff hno).1
                by_cases k7 : 2000 < prodG l
                · have := key.1 k7
                  rw [if_neg fun h => by omega]
                  simp (config := { maxSteps := 1000000 }) (disch := omega) only [push_cast, ↓reduceIte, Nat.reduceEqDiff, Nat.reduceAdd, Nat.reduceLT, Nat.reduceLeDiff, Nat.reduceBEq, Nat.reduceMul, Nat.reduceSub, Int.reduceToNat, Int.reduceEq, Int.reduceLT, Int.reduceLE, Int.reduceNeg, Int.reduceAdd, Int.reduceSub, Int.reduceMul, Try.f39, kr39, kp39_7, ow39_7, ty3, ty25, ty26, ty41, ty45, h2, hn, hA, k1, k2, k3, k4, k5, hl7, k7]
                · have := fun h => k7 (key.2 h)
                  rw [if_pos ⟨⟨by omega, by omega, by omega, k4, k5⟩, k6, by omega⟩]
                  simp (config := { maxSteps := 1000000 }) (disch := omega) only [push_cast, ↓reduceIte, Nat.reduceEqDiff, Nat.reduceAdd, Nat.reduceLT, Nat.reduceLeDiff, Nat.reduceBEq, Nat.reduceMul, Nat.reduceSub, Int.reduceToNat, Int.reduceEq, Int.reduceLT, Int.reduceLE, Int.reduceNeg, Int.reduceAdd, Int.reduceSub, Int.reduceMul, Try.f39, kr39, kp39_7, ow39_7, ty3, ty25, ty26, ty41, ty45, h2, hn, hA, k1, k2, k3, k4, k5, hl7, k7]
              · rw [if_neg k6] at hl7
                rw [if_neg fun h => k6 h.2.1]
                simp (config := { maxSteps := 1000000 }) (disch := omega) only [push_cast, ↓reduceIte, Nat.reduceEqDiff, Nat.reduceAdd, Nat.reduceLT, Nat.reduceLeDiff, Nat.reduceBEq, Nat.reduceMul, Nat.reduceSub, Int.reduceToNat, Int.reduceEq, Int.reduceLT, Int.reduceLE, Int.reduceNeg, Int.reduceAdd, Int.reduceSub, Int.reduceMul, Try.f39, kr39, kp39_7, ow39_7, ty3, ty25, ty26, ty41, ty45, h2, hn, hA, k1, k2, k3, k4, k5, hl7]
            · rw [if_neg fun h => k5 h.1.2.2.2.2]
              simp (config := { maxSteps := 1000000 }) (disch := omega) only [push_cast, ↓reduceIte, Nat.reduceEqDiff, Nat.reduceAdd, Nat.reduceLT, Nat.reduceLeDiff, Nat.reduceBEq, Nat.reduceMul, Nat.reduceSub, Int.reduceToNat, Int.reduceEq, Int.reduceLT, Int.reduceLE, Int.reduceNeg, Int.reduceAdd, Int.reduceSub, Int.reduceMul, Try.f39, kr39, kp39_7, ow39_7, ty3, ty25, ty26, ty41, ty45, h2, hn, hA, k1, k2, k3, k4, k5]
          · rw [if_neg fun h => k4 h.1.2.2.2.1]
            by_cases k5 : allN a
            · simp (config := { maxSteps := 1000000 }) (disch := omega) only [push_cast, ↓reduceIte, Nat.reduceEqDiff, Nat.reduceAdd, Nat.reduceLT, Nat.reduceLeDiff, Nat.reduceBEq, Nat.reduceMul, Nat.reduceSub, Int.reduceToNat, Int.reduceEq, Int.reduceLT, Int.reduceLE, Int.reduceNeg, Int.reduceAdd, Int.reduceSub, Int.reduceMul, Try.f39, kr39, kp39_7, ow39_7, ty3, ty25, ty26, ty41, ty45, h2, hn, hA, k1, k2, k3, k4, k5]
            · simp (config := { maxSteps := 1000000 }) (disch := omega) only [push_cast, ↓reduceIte, Nat.reduceEqDiff, Nat.reduceAdd, Nat.reduceLT, Nat.reduceLeDiff, Nat.reduceBEq, Nat.reduceMul, Nat.reduceSub, Int.reduceToNat, Int.reduceEq, Int.reduceLT, Int.reduceLE, Int.reduceNeg, Int.reduceAdd, Int.reduceSub, Int.reduceMul, Try.f39, kr39, kp39_7, ow39_7, ty3, ty25, ty26, ty41, ty45, h2, hn, hA, k1, k2, k3, k4, k5]
        · rw [if_neg fun h => by omega]
          simp (config := { maxSteps := 1000000 }) (disch := omega) only [push_cast, ↓reduceIte, Nat.reduceEqDiff, Nat.reduceAdd, Nat.reduceLT, Nat.reduceLeDiff, Nat.reduceBEq, Nat.reduceMul, Nat.reduceSub, Int.reduceToNat, Int.reduceEq, Int.reduceLT, Int.reduceLE, Int.reduceNeg, Int.reduceAdd, Int.reduceSub, Int.reduceMul, Try.f39, kr39, kp39_7, ow39_7, ty3, ty25, ty26, ty41, ty45, h2, hn, hA, k1, k2, k3]
end
end Go.Proofs.Ytopnopepcpepbaa.Tev
