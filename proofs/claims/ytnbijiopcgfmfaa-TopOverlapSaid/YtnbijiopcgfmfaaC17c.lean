/- What the document's functions on Refs return. -/
import Derived.Test.YtnbijiopcgfmfaaC17b
namespace Go.Proofs.Ytnbijiopcgfmfaa.Tev
open Go Go.RowKit Go.Proofs Go.Proofs.Ytnbijiopcgfmfaa.Q
set_option linter.unusedSectionVars false
set_option maxRecDepth 100000
set_option maxHeartbeats 0
set_option linter.unusedSimpArgs false
set_option linter.unusedVariables false
/-- The product that the document begins with: 0 if some extent is. -/
def one0 : List Int → Int → Int
  | [], a => a
  | e :: r, a => one0 r (if e = 0 then 0 else a)
theorem one0_zero : ∀ (r : List Int), one0 r 0 = 0
  | [] => rfl
  | e :: r => by rw [one0]; split <;> exact one0_zero r
theorem one0_one : ∀ (r : List Int), one0 r 1 = if (0 : Int) ∈ r then 0 else 1
  | [] => rfl
  | e :: r => by
    rw [one0]
    by_cases h : e = 0
    · rw [if_pos h, one0_zero, if_pos (by simp [h])]
    · rw [if_neg h, one0_one r]
      by_cases h2 : (0 : Int) ∈ r
      · rw [if_pos h2, if_pos (by simp [h2])]
      · rw [if_neg h2, if_neg (by simp [h2]; exact fun q => h q.symm)]
section
variable (b : Bool) (c : Option Nat) (E : List Int)
theorem rl_Turns5 (h3 : E.length ≤ 3) : ∀ (r : List Int) (i : Nat) (a : Int), E.drop i = r →
    lp E0 pr0 15 5 ⟨[(0, SL b c E.length (ints E)), (3, I a), (4, I i)], [], 0⟩ =
      if ∀ e ∈ r, x4 e then some (.exit 0, ⟨[(0, SL b c E.length (ints E)), (3, I (one0 r a))], [], 0⟩) else some (.ret, ⟨[(2, I (-1))], [], 0⟩) := by
  intro r
  induction r with
  | nil =>
    intro i a h1
    have h5 := drop_nil h1
    have h6 : ¬ (i : Int) < E.length := by omega
    rw [if_pos (show ∀ e ∈ ([] : List Int), x4 e from fun e he => by simp at he)]
    rw [lp_eq lp15_5]
    simp (config := { maxSteps := 1000000 }) (disch := omega) only [push_cast, ↓reduceIte, Nat.reduceEqDiff, Nat.reduceAdd, Nat.reduceLT, Nat.reduceLeDiff, Nat.reduceBEq, Nat.reduceMul, Nat.reduceSub, Int.reduceToNat, Int.reduceEq, Int.reduceLT, Int.reduceLE, Int.reduceNeg, Int.reduceAdd, Int.reduceSub, Int.reduceMul, Try.f15, kr15, kp15_12, kp15_5, ow15_12, ow15_5, ty3, ty28, h6, one0]
  | cons x r ih =>
    intro i a h1
    obtain ⟨g1, g2, g3⟩ := drop_cons h1
    have g8 : (i : Int) < E.length := by omega
    by_cases hx : x4 x
    · have e2 : ¬ x < 0 := by unfold x4 at hx; omega
      have e3 : ¬ 400 < x := by unfold x4 at hx; omega
      have eI : (if ∀ e ∈ x :: r, x4 e then some (Ex.exit 0, (⟨[(0, SL b c E.length (ints E)), (3, I (one0 (x :: r) a))], [], 0⟩ : St)) else some (Ex.ret, ⟨[(2, I (-1))], [], 0⟩)) =
          if ∀ e ∈ r, x4 e then some (Ex.exit 0, ⟨[(0, SL b c E.length (ints E)), (3, I (one0 (x :: r) a))], [], 0⟩) else some (Ex.ret, ⟨[(2, I (-1))], [], 0⟩) := by
        by_cases hr : ∀ u ∈ r, x4 u
        · rw [if_pos hr, if_pos (fun u hu => by rcases List.mem_cons.1 hu with rfl | hu; exact hx; exact hr u hu)]
        · rw [if_neg hr, if_neg fun h => hr fun u hu => h u (by simp [hu])]
      rw [eI]
      rw [lp_eq lp15_5]
      by_cases h0 : x = 0
      · have ih' := ih (i + 1) 0 g3
        rw [show one0 r 0 = one0 (x :: r) a by rw [one0, if_pos h0]] at ih'
        simp only [cast1, List.length_append, List.length_cons, List.length_nil, Nat.zero_add, Nat.add_zero, Int.natCast_zero, Int.natCast_add, Int.zero_add, ints_1, ints_0, ] at ih'
        simp (config := { maxSteps := 1000000 }) (disch := omega) only [push_cast, ↓reduceIte, Nat.reduceEqDiff, Nat.reduceAdd, Nat.reduceLT, Nat.reduceLeDiff, Nat.reduceBEq, Nat.reduceMul, Nat.reduceSub, Int.reduceToNat, Int.reduceEq, Int.reduceLT, Int.reduceLE, Int.reduceNeg, Int.reduceAdd, Int.reduceSub, Int.reduceMul, Try.f15, kr15, kp15_12, kp15_5, ow15_12, ow15_5, ty3, ty28, g1, g8, getD_of g2, e2, e3, h0, ih', Int.lt_irrefl, Int.reduceLT]
      · have ih' := ih (i + 1) a g3
        rw [show one0 r a = one0 (x :: r) a by rw [one0, if_neg h0]] at ih'
        simp only [cast1, List.length_append, List.length_cons, List.length_nil, Nat.zero_add, Nat.add_zero, Int.natCast_zero, Int.natCast_add, Int.zero_add, ints_1, ints_0, ] at ih'
        simp (config := { maxSteps := 1000000 }) (disch := omega) only [push_cast, ↓reduceIte, Nat.reduceEqDiff, Nat.reduceAdd, Nat.reduceLT, Nat.reduceLeDiff, Nat.reduceBEq, Nat.reduceMul, Nat.reduceSub, Int.reduceToNat, Int.reduceEq, Int.reduceLT, Int.reduceLE, Int.reduceNeg, Int.reduceAdd, Int.reduceSub, Int.reduceMul, Try.f15, kr15, kp15_12, kp15_5, ow15_12, ow15_5, ty3, ty28, g1, g8, getD_of g2, e2, e3, h0, ih']
    · have hn : ¬ ∀ e ∈ x :: r, x4 e := fun h => hx (h x (by simp))
      rw [if_neg hn]
      rw [lp_eq lp15_5]
      by_cases e2 : x < 0
      · simp (config := { maxSteps := 1000000 }) (disch := omega) only [push_cast, ↓reduceIte, Nat.reduceEqDiff, Nat.reduceAdd, Nat.reduceLT, Nat.reduceLeDiff, Nat.reduceBEq, Nat.reduceMul, Nat.reduceSub, Int.reduceToNat, Int.reduceEq, Int.reduceLT, Int.reduceLE, Int.reduceNeg, Int.reduceAdd, Int.reduceSub, Int.reduceMul, Try.f15, kr15, kp15_12, kp15_5, ow15_12, ow15_5, ty3, ty28, g1, g8, getD_of g2, e2]
      · have e3 : 400 < x := by unfold x4 at hx; omega
        simp (config := { maxSteps := 1000000 }) (disch := omega) only [push_cast, ↓reduceIte, Nat.reduceEqDiff, Nat.reduceAdd, Nat.reduceLT, Nat.reduceLeDiff, Nat.reduceBEq, Nat.reduceMul, Nat.reduceSub, Int.reduceToNat, Int.reduceEq, Int.reduceLT, Int.reduceLE, Int.reduceNeg, Int.reduceAdd, Int.reduceSub, Int.reduceMul, Try.f15, kr15, kp15_12, kp15_5, ow15_12, ow15_5, ty3, ty28, g1, g8, getD_of g2, e2, e3]
theorem rl_Turns12 (h3 : E.length ≤ 3) (hE : ∀ e ∈ E, 1 ≤ e ∧ e ≤ 400) : ∀ (r : List Int) (i : Nat) (a : Int), E.drop i = r → 1 ≤ a → a ≤ X4 i →
    lp E0 pr0 15 12 ⟨[(0, SL b c E.length (ints E)), (3, I a), (5, I i)], [], 0⟩ = some (.exit 2, ⟨[(3, I (a * pr r))], [], 0⟩) := by
  intro r
  induction r with
  | nil =>
    intro i a h1 h2 h4
    have h5 := drop_nil h1
    have h6 : ¬ (i : Int) < E.length := by omega
    rw [lp_eq lp15_12]
    simp (config := { maxSteps := 1000000 }) (disch := omega) only [push_cast, ↓reduceIte, Nat.reduceEqDiff, Nat.reduceAdd, Nat.reduceLT, Nat.reduceLeDiff, Nat.reduceBEq, Nat.reduceMul, Nat.reduceSub, Int.reduceToNat, Int.reduceEq, Int.reduceLT, Int.reduceLE, Int.reduceNeg, Int.reduceAdd, Int.reduceSub, Int.reduceMul, Try.f15, kr15, kp15_12, kp15_5, ow15_12, ow15_5, ty3, ty28, h6, pr, Int.mul_one]
  | cons x r ih =>
    intro i a h1 h2 h4
    obtain ⟨g1, g2, g3⟩ := drop_cons h1
    have g8 : (i : Int) < E.length := by omega
    obtain ⟨e0, e1⟩ := hE x (List.mem_of_getElem? g2)
    obtain ⟨b0, b1⟩ := X4_step (n := i) (by omega) (by omega) h4 (by omega) e1
    have b2 := X4_le (i + 1)
    have b3 : 1 ≤ a * x := by have := Int.mul_le_mul h2 e0 (by omega) (by omega); omega
    have a0 : 0 < a := by omega
    have ih' := ih (i + 1) (a * x) g3 b3 b1
    rw [Int.mul_assoc, show x * pr r = pr (x :: r) from rfl] at ih'
    simp only [cast1, List.length_append, List.length_cons, List.length_nil, Nat.zero_add, Nat.add_zero, Int.natCast_zero, Int.natCast_add, Int.zero_add, ints_1, ints_0, ] at ih'
    rw [lp_eq lp15_12]
    simp (config := { maxSteps := 1000000 }) (disch := omega) only [push_cast, ↓reduceIte, Nat.reduceEqDiff, Nat.reduceAdd, Nat.reduceLT, Nat.reduceLeDiff, Nat.reduceBEq, Nat.reduceMul, Nat.reduceSub, Int.reduceToNat, Int.reduceEq, Int.reduceLT, Int.reduceLE, Int.reduceNeg, Int.reduceAdd, Int.reduceSub, Int.reduceMul, Try.f15, kr15, kp15_12, kp15_5, ow15_12, ow15_5, ty3, ty28, g1, g8, getD_of g2, a0, ih']
theorem r17_Turns : CALL 15 [SL b c E.length (ints E)] = some (I (manyQ E), []) := by
  refine lim_run (fn := Try.f15) fn15 rfl body15 (Nat.le_of_ble_eq_true rfl) ok15 ?_
  unfold manyQ
  by_cases h2 : (E.length : Int) < 1
  · simp (config := { maxSteps := 1000000 }) (disch := omega) only [push_cast, ↓reduceIte, Nat.reduceEqDiff, Nat.reduceAdd, Nat.reduceLT, Nat.reduceLeDiff, Nat.reduceBEq, Nat.reduceMul, Nat.reduceSub, Int.reduceToNat, Int.reduceEq, Int.reduceLT, Int.reduceLE, Int.reduceNeg, Int.reduceAdd, Int.reduceSub, Int.reduceMul, Try.f15, kr15, kp15_12, kp15_5, ow15_12, ow15_5, ty3, ty28, h2]
    rw [if_neg (fun h : okX E => by have q : 1 ≤ E.length ∧ E.length ≤ 3 := h.1.1; omega)]
  · by_cases h3 : 3 < (E.length : Int)
    · simp (config := { maxSteps := 1000000 }) (disch := omega) only [push_cast, ↓reduceIte, Nat.reduceEqDiff, Nat.reduceAdd, Nat.reduceLT, Nat.reduceLeDiff, Nat.reduceBEq, Nat.reduceMul, Nat.reduceSub, Int.reduceToNat, Int.reduceEq, Int.reduceLT, Int.reduceLE, Int.reduceNeg, Int.reduceAdd, Int.reduceSub, Int.reduceMul, Try.f15, kr15, kp15_12, kp15_5, ow15_12, ow15_5, ty3, ty28, h2, h3]
      rw [if_neg (fun h : okX E => by have q : 1 ≤ E.length ∧ E.length ≤ 3 := h.1.1; omega)]
    · have h5 := rl_Turns5 b c E (by omega) E 0 1 rfl
      simp only [cast1, List.length_append, List.length_cons, List.length_nil, Nat.zero_add, Nat.add_zero, Int.natCast_zero, Int.natCast_add, Int.zero_add, ints_1, ints_0, ] at h5
      by_cases hE : ∀ e ∈ E, x4 e
      · rw [if_pos hE, one0_one] at h5
        by_cases h0 : (0 : Int) ∈ E
        · rw [if_pos h0] at h5
          have hp : pr E = 0 := pr_of_zero h0
          have hl : lp E0 pr0 15 12 ⟨[(0, SL b c E.length (ints E)), (3, I 0), (5, I 0)], [], 0⟩ = some (.exit 2, ⟨[(3, I 0)], [], 0⟩) := by
            rw [lp_eq lp15_12]
            have h7 : (0 : Int) < E.length := by omega
            simp (config := { maxSteps := 1000000 }) (disch := omega) only [push_cast, ↓reduceIte, Nat.reduceEqDiff, Nat.reduceAdd, Nat.reduceLT, Nat.reduceLeDiff, Nat.reduceBEq, Nat.reduceMul, Nat.reduceSub, Int.reduceToNat, Int.reduceEq, Int.reduceLT, Int.reduceLE, Int.reduceNeg, Int.reduceAdd, Int.reduceSub, Int.reduceMul, Try.f15, kr15, kp15_12, kp15_5, ow15_12, ow15_5, ty3, ty28, h7, Int.lt_irrefl]
          rw [if_pos (show okX E from ⟨⟨by omega, hE⟩, by omega⟩), hp]
          simp (config := { maxSteps := 1000000 }) (disch := omega) only [push_cast, ↓reduceIte, Nat.reduceEqDiff, Nat.reduceAdd, Nat.reduceLT, Nat.reduceLeDiff, Nat.reduceBEq, Nat.reduceMul, Nat.reduceSub, Int.reduceToNat, Int.reduceEq, Int.reduceLT, Int.reduceLE, Int.reduceNeg, Int.reduceAdd, Int.reduceSub, Int.reduceMul, Try.f15, kr15, kp15_12, kp15_5, ow15_12, ow15_5, ty3, ty28, h2, h3, h5, hl]
        · rw [if_neg h0] at h5
          have hE1 : ∀ e ∈ E, 1 ≤ e ∧ e ≤ 400 := fun e he => by
            have := hE e he
            unfold x4 at this
            have : e ≠ 0 := fun q => h0 (q ▸ he)
            omega
          have hl := rl_Turns12 b c E (by omega) hE1 E 0 1 rfl (by omega) (by simp [X4])
          simp only [cast1, List.length_append, List.length_cons, List.length_nil, Nat.zero_add, Nat.add_zero, Int.natCast_zero, Int.natCast_add, Int.zero_add, ints_1, ints_0, Int.one_mul] at hl
          simp (config := { maxSteps := 1000000 }) (disch := omega) only [push_cast, ↓reduceIte, Nat.reduceEqDiff, Nat.reduceAdd, Nat.reduceLT, Nat.reduceLeDiff, Nat.reduceBEq, Nat.reduceMul, Nat.reduceSub, Int.reduceToNat, Int.reduceEq, Int.reduceLT, Int.reduceLE, Int.reduceNeg, Int.reduceAdd, Int.reduceSub, Int.reduceMul, Try.f15, kr15, kp15_12, kp15_5, ow15_12, ow15_5, ty3, ty28, h2, h3, h5, hl]
          by_cases hp : 400 < pr E
          · rw [if_pos hp, if_neg (fun h : okX E => by have q : pr E ≤ 400 := h.2; omega)]
          · rw [if_neg hp, if_pos (show okX E from ⟨⟨by omega, hE⟩, by omega⟩)]
      · rw [if_neg hE] at h5
        simp (config := { maxSteps := 1000000 }) (disch := omega) only [push_cast, ↓reduceIte, Nat.reduceEqDiff, Nat.reduceAdd, Nat.reduceLT, Nat.reduceLeDiff, Nat.reduceBEq, Nat.reduceMul, Nat.reduceSub, Int.reduceToNat, Int.reduceEq, Int.reduceLT, Int.reduceLE, Int.reduceNeg, Int.reduceAdd, Int.reduceSub, Int.reduceMul, Try.f15, kr15, kp15_12, kp15_5, ow15_12, ow15_5, ty3, ty28, h2, h3, h5]
        rw [if_neg (fun h : okX E => hE h.1.2)]
end
theorem subs_in : ∀ (E : List Int) (n : Int), (∀ e ∈ E, 1 ≤ e ∧ e ≤ 400) → 0 ≤ n → ∀ x ∈ subsQ E n, 0 ≤ x ∧ x ≤ 400
  | [], n, _, _, x, h => by simp [subsQ] at h
  | e :: E, n, hE, h0, x, h => by
    have he := hE e (by simp)
    rw [subsQ] at h
    rcases List.mem_cons.1 h with rfl | h
    · have := Int.tmod_nonneg e h0
      have := Int.tmod_lt_of_pos n (show 0 < e by omega)
      omega
    · refine subs_in E _ (fun y hy => hE y (by simp [hy])) ?_ x h
      rw [Int.tdiv_eq_ediv_of_nonneg h0]
      exact Int.ediv_nonneg h0 (by omega)
section
variable (ar base : Int) (b1 b2 : Bool) (c1 c2 : Option Nat) (E S : List Int)
end
end Go.Proofs.Ytnbijiopcgfmfaa.Tev
