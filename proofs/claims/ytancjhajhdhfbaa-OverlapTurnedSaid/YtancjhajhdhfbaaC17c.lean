/- What the document's functions on Refs return. -/
import Derived.Test.YtancjhajhdhfbaaC17b
namespace Go.Proofs.Ytancjhajhdhfbaa.Tev
open Go Go.RowKit Go.Proofs Go.Proofs.Ytancjhajhdhfbaa.Q
set_option linter.unusedSectionVars false
set_option maxRecDepth 100000
set_option maxHeartbeats 0
set_option linter.unusedSimpArgs false
set_option linter.unusedVariables false
theorem r17_within (n : Int) : CALL 46 [I n] = some (B (decide (near n)), []) := by
  refine lim_run (fn := Try.f46) fn46 rfl body46 (Nat.le_of_ble_eq_true rfl) ok46 ?_
  simp (config := { maxSteps := 1000000 }) (disch := omega) only [push_cast, ↓reduceIte, Nat.reduceEqDiff, Nat.reduceAdd, Nat.reduceLT, Nat.reduceLeDiff, Nat.reduceBEq, Nat.reduceMul, Nat.reduceSub, Int.reduceToNat, Int.reduceEq, Int.reduceLT, Int.reduceLE, Int.reduceNeg, Int.reduceAdd, Int.reduceSub, Int.reduceMul, Try.f46, kr46, ty4, tb4]
  unfold near
  by_cases h : -1000000 ≤ n <;> simp [h]
/-- The product that the document begins with: 0 if some extent is. -/
def one0 : List Int → Int → Int
  | [], a => a
  | e :: r, a => one0 r (if e = 0 then 0 else a)
theorem one0_zero : ∀ (r : List Int), one0 r 0 = 0
  | [] => rfl
  | e :: r => by rw [one0]; split <;> exact one0_zero r
theorem one0_one : ∀ (r : List Int), one0 r 1 = if (0 : Int) ∈ r then 0 else 1
  | [] => rfl
  | e :: r => by
    rw [one0]
    by_cases h : e = 0
    · rw [if_pos h, one0_zero, if_pos (by simp [h])]
    · rw [if_neg h, one0_one r]
      by_cases h2 : (0 : Int) ∈ r
      · rw [if_pos h2, if_pos (by simp [h2])]
      · rw [if_neg h2, if_neg (by simp [h2]; exact fun q => h q.symm)]
section
variable (b : Bool) (c : Option Nat) (E : List Int)
theorem rl_Turns5 (h3 : E.length ≤ 3) : ∀ (r : List Int) (i : Nat) (a : Int), E.drop i = r →
    lp E0 pr0 34 5 ⟨[(0, SL b c E.length (ints E)), (3, I a), (4, I i)], [], 0⟩ =
      if ∀ e ∈ r, x4 e then some (.exit 0, ⟨[(0, SL b c E.length (ints E)), (3, I (one0 r a))], [], 0⟩) else some (.ret, ⟨[(2, I (-1))], [], 0⟩) := by
  intro r
  induction r with
  | nil =>
    intro i a h1
    have h5 := drop_nil h1
    have h6 : ¬ (i : Int) < E.length := by omega
    rw [if_pos (show ∀ e ∈ ([] : List Int), x4 e from fun e he => by simp at he)]
    rw [lp_eq lp34_5]
    simp (config := { maxSteps := 1000000 }) (disch := omega) only [push_cast, ↓reduceIte, Nat.reduceEqDiff, Nat.reduceAdd, Nat.reduceLT, Nat.reduceLeDiff, Nat.reduceBEq, Nat.reduceMul, Nat.reduceSub, Int.reduceToNat, Int.reduceEq, Int.reduceLT, Int.reduceLE, Int.reduceNeg, Int.reduceAdd, Int.reduceSub, Int.reduceMul, Try.f34, kr34, kp34_12, kp34_5, ow34_12, ow34_5, ty3, ty22, h6, one0]
  | cons x r ih =>
    intro i a h1
    obtain ⟨g1, g2, g3⟩ := drop_cons h1
    have g8 : (i : Int) < E.length := by omega
    by_cases hx : x4 x
    · have e2 : ¬ x < 0 := by unfold x4 at hx; omega
      have e3 : ¬ 400 < x := by unfold x4 at hx; omega
      have eI : (if ∀ e ∈ x :: r, x4 e then some (Ex.exit 0, (⟨[(0, SL b c E.length (ints E)), (3, I (one0 (x :: r) a))], [], 0⟩ : St)) else some (Ex.ret, ⟨[(2, I (-1))], [], 0⟩)) =
          if ∀ e ∈ r, x4 e then some (Ex.exit 0, ⟨[(0, SL b c E.length (ints E)), (3, I (one0 (x :: r) a))], [], 0⟩) else some (Ex.ret, ⟨[(2, I (-1))], [], 0⟩) := by
        by_cases hr : ∀ u ∈ r, x4 u
        · rw [if_pos hr, if_pos (fun u hu => by rcases List.mem_cons.1 hu with rfl | hu; exact hx; exact hr u hu)]
        · rw [if_neg hr, if_neg fun h => hr fun u hu => h u (by simp [hu])]
      rw [eI]
      rw [lp_eq lp34_5]
      by_cases h0 : x = 0
      · have ih' := ih (i + 1) 0 g3
        rw [show one0 r 0 = one0 (x :: r) a by rw [one0, if_pos h0]] at ih'
        simp only [cast1, List.length_append, List.length_cons, List.length_nil, Nat.zero_add, Nat.add_zero, Int.natCast_zero, Int.natCast_add, Int.zero_add, ints_1, ints_0, ] at ih'
        simp (config := { maxSteps := 1000000 }) (disch := omega) only [push_cast, ↓reduceIte, Nat.reduceEqDiff, Nat.reduceAdd, Nat.reduceLT, Nat.reduceLeDiff, Nat.reduceBEq, Nat.reduceMul, Nat.reduceSub, Int.reduceToNat, Int.reduceEq, Int.reduceLT, Int.reduceLE, Int.reduceNeg, Int.reduceAdd, Int.reduceSub, Int.reduceMul, Try.f34, kr34, kp34_12, kp34_5, ow34_12, ow34_5, ty3, ty22, g1, g8, getD_of g2, e2, e3, h0, ih', Int.lt_irrefl, Int.reduceLT]
      · have ih' := ih (i + 1) a g3
        rw [show one0 r a = one0 (x :: r) a by rw [one0, if_neg h0]] at ih'
        simp only [cast1, List.length_append, List.length_cons, List.length_nil, Nat.zero_add, Nat.add_zero, Int.natCast_zero, Int.natCast_add, Int.zero_add, ints_1, ints_0, ] at ih'
        simp (config := { maxSteps := 1000000 }) (disch := omega) only [push_cast, ↓reduceIte, Nat.reduceEqDiff, Nat.reduceAdd, Nat.reduceLT, Nat.reduceLeDiff, Nat.reduceBEq, Nat.reduceMul, Nat.reduceSub, Int.reduceToNat, Int.reduceEq, Int.reduceLT, Int.reduceLE, Int.reduceNeg, Int.reduceAdd, Int.reduceSub, Int.reduceMul, Try.f34, kr34, kp34_12, kp34_5, ow34_12, ow34_5, ty3, ty22, g1, g8, getD_of g2, e2, e3, h0, ih']
    · have hn : ¬ ∀ e ∈ x :: r, x4 e := fun h => hx (h x (by simp))
      rw [if_neg hn]
      rw [lp_eq lp34_5]
      by_cases e2 : x < 0
      · simp (config := { maxSteps := 1000000 }) (disch := omega) only [push_cast, ↓reduceIte, Nat.reduceEqDiff, Nat.reduceAdd, Nat.reduceLT, Nat.reduceLeDiff, Nat.reduceBEq, Nat.reduceMul, Nat.reduceSub, Int.reduceToNat, Int.reduceEq, Int.reduceLT, Int.reduceLE, Int.reduceNeg, Int.reduceAdd, Int.reduceSub, Int.reduceMul, Try.f34, kr34, kp34_12, kp34_5, ow34_12, ow34_5, ty3, ty22, g1, g8, getD_of g2, e2]
      · have e3 : 400 < x := by unfold x4 at hx; omega
        simp (config := { maxSteps := 1000000 }) (disch := omega) only [push_cast, ↓reduceIte, Nat.reduceEqDiff, Nat.reduceAdd, Nat.reduceLT, Nat.reduceLeDiff, Nat.reduceBEq, Nat.reduceMul, Nat.reduceSub, Int.reduceToNat, Int.reduceEq, Int.reduceLT, Int.reduceLE, Int.reduceNeg, Int.reduceAdd, Int.reduceSub, Int.reduceMul, Try.f34, kr34, kp34_12, kp34_5, ow34_12, ow34_5, ty3, ty22, g1, g8, getD_of g2, e2, e3]
theorem rl_Turns12 (h3 : E.length ≤ 3) (hE : ∀ e ∈ E, 1 ≤ e ∧ e ≤ 400) : ∀ (r : List Int) (i : Nat) (a : Int), E.drop i = r → 1 ≤ a → a ≤ X4 i →
    lp E0 pr0 34 12 ⟨[(0, SL b c E.length (ints E)), (3, I a), (5, I i)], [], 0⟩ = some (.exit 2, ⟨[(3, I (a * pr r))], [], 0⟩) := by
  intro r
  induction r with
  | nil =>
    intro i a h1 h2 h4
    have h5 := drop_nil h1
    have h6 : ¬ (i : Int) < E.length := by omega
    rw [lp_eq lp34_12]
    simp (config := { maxSteps := 1000000 }) (disch := omega) only [push_cast, ↓reduceIte, Nat.reduceEqDiff, Nat.reduceAdd, Nat.reduceLT, Nat.reduceLeDiff, Nat.reduceBEq, Nat.reduceMul, Nat.reduceSub, Int.reduceToNat, Int.reduceEq, Int.reduceLT, Int.reduceLE, Int.reduceNeg, Int.reduceAdd, Int.reduceSub, Int.reduceMul, Try.f34, kr34, kp34_12, kp34_5, ow34_12, ow34_5, ty3, ty22, h6, pr, Int.mul_one]
  | cons x r ih =>
    intro i a h1 h2 h4
    obtain ⟨g1, g2, g3⟩ := drop_cons h1
    have g8 : (i : Int) < E.length := by omega
    obtain ⟨e0, e1⟩ := hE x (List.mem_of_getElem? g2)
    obtain ⟨b0, b1⟩ := X4_step (n := i) (by omega) (by omega) h4 (by omega) e1
    have b2 := X4_le (i + 1)
    have b3 : 1 ≤ a * x := by have := Int.mul_le_mul h2 e0 (by omega) (by omega); omega
    have a0 : 0 < a := by omega
    have ih' := ih (i + 1) (a * x) g3 b3 b1
    rw [Int.mul_assoc, show x * pr r = pr (x :: r) from rfl] at ih'
    simp only [cast1, List.length_append, List.length_cons, List.length_nil, Nat.zero_add, Nat.add_zero, Int.natCast_zero, Int.natCast_add, Int.zero_add, ints_1, ints_0, ] at ih'
    rw [lp_eq lp34_12]
    simp (config := { maxSteps := 1000000 }) (disch := omega) only [push_cast, ↓reduceIte, Nat.reduceEqDiff, Nat.reduceAdd, Nat.reduceLT, Nat.reduceLeDiff, Nat.reduceBEq, Nat.reduceMul, Nat.reduceSub, Int.reduceToNat, Int.reduceEq, Int.reduceLT, Int.reduceLE, Int.reduceNeg, Int.reduceAdd, Int.reduceSub, Int.reduceMul, Try.f34, kr34, kp34_12, kp34_5, ow34_12, ow34_5, ty3, ty22, g1, g8, getD_of g2, a0, ih']
theorem r17_Turns : CALL 34 [SL b c E.length (ints E)] = some (I (manyQ E), []) := by
  refine lim_run (fn := Try.f34) fn34 rfl body34 (Nat.le_of_ble_eq_true rfl) ok34 ?_
  unfold manyQ
  by_cases h2 : (E.length : Int) < 1
  · simp (config := { maxSteps := 1000000 }) (disch := omega) only [push_cast, ↓reduceIte, Nat.reduceEqDiff, Nat.reduceAdd, Nat.reduceLT, Nat.reduceLeDiff, Nat.reduceBEq, Nat.reduceMul, Nat.reduceSub, Int.reduceToNat, Int.reduceEq, Int.reduceLT, Int.reduceLE, Int.reduceNeg, Int.reduceAdd, Int.reduceSub, Int.reduceMul, Try.f34, kr34, kp34_12, kp34_5, ow34_12, ow34_5, ty3, ty22, h2]
    rw [if_neg (fun h : okX E => by have q : 1 ≤ E.length ∧ E.length ≤ 3 := h.1.1; omega)]
  · by_cases h3 : 3 < (E.length : Int)
    · simp (config := { maxSteps := 1000000 }) (disch := omega) only [push_cast, ↓reduceIte, Nat.reduceEqDiff, Nat.reduceAdd, Nat.reduceLT, Nat.reduceLeDiff, Nat.reduceBEq, Nat.reduceMul, Nat.reduceSub, Int.reduceToNat, Int.reduceEq, Int.reduceLT, Int.reduceLE, Int.reduceNeg, Int.reduceAdd, Int.reduceSub, Int.reduceMul, Try.f34, kr34, kp34_12, kp34_5, ow34_12, ow34_5, ty3, ty22, h2, h3]
      rw [if_neg (fun h : okX E => by have q : 1 ≤ E.length ∧ E.length ≤ 3 := h.1.1; omega)]
    · have h5 := rl_Turns5 b c E (by omega) E 0 1 rfl
      simp only [cast1, List.length_append, List.length_cons, List.length_nil, Nat.zero_add, Nat.add_zero, Int.natCast_zero, Int.natCast_add, Int.zero_add, ints_1, ints_0, ] at h5
      by_cases hE : ∀ e ∈ E, x4 e
      · rw [if_pos hE, one0_one] at h5
        by_cases h0 : (0 : Int) ∈ E
        · rw [if_pos h0] at h5
          have hp : pr E = 0 := pr_of_zero h0
          have hl : lp E0 pr0 34 12 ⟨[(0, SL b c E.length (ints E)), (3, I 0), (5, I 0)], [], 0⟩ = some (.exit 2, ⟨[(3, I 0)], [], 0⟩) := by
            rw [lp_eq lp34_12]
            have h7 : (0 : Int) < E.length := by omega
            simp (config := { maxSteps := 1000000 }) (disch := omega) only [push_cast, ↓reduceIte, Nat.reduceEqDiff, Nat.reduceAdd, Nat.reduceLT, Nat.reduceLeDiff, Nat.reduceBEq, Nat.reduceMul, Nat.reduceSub, Int.reduceToNat, Int.reduceEq, Int.reduceLT, Int.reduceLE, Int.reduceNeg, Int.reduceAdd, Int.reduceSub, Int.reduceMul, Try.f34, kr34, kp34_12, kp34_5, ow34_12, ow34_5, ty3, ty22, h7, Int.lt_irrefl]
          rw [if_pos (show okX E from ⟨⟨by omega, hE⟩, by omega⟩), hp]
          simp (config := { maxSteps := 1000000 }) (disch := omega) only [push_cast, ↓reduceIte, Nat.reduceEqDiff, Nat.reduceAdd, Nat.reduceLT, Nat.reduceLeDiff, Nat.reduceBEq, Nat.reduceMul, Nat.reduceSub, Int.reduceToNat, Int.reduceEq, Int.reduceLT, Int.reduceLE, Int.reduceNeg, Int.reduceAdd, Int.reduceSub, Int.reduceMul, Try.f34, kr34, kp34_12, kp34_5, ow34_12, ow34_5, ty3, ty22, h2, h3, h5, hl]
        · rw [if_neg h0] at h5
          have hE1 : ∀ e ∈ E, 1 ≤ e ∧ e ≤ 400 := fun e he => by
            have := hE e he
            unfold x4 at this
            have : e ≠ 0 := fun q => h0 (q ▸ he)
            omega
          have hl := rl_Turns12 b c E (by omega) hE1 E 0 1 rfl (by omega) (by simp [X4])
          simp only [cast1, List.length_append, List.length_cons, List.length_nil, Nat.zero_add, Nat.add_zero, Int.natCast_zero, Int.natCast_add, Int.zero_add, ints_1, ints_0, Int.one_mul] at hl
          simp (config := { maxSteps := 1000000 }) (disch := omega) only [push_cast, ↓reduceIte, Nat.reduceEqDiff, Nat.reduceAdd, Nat.reduceLT, Nat.reduceLeDiff, Nat.reduceBEq, Nat.reduceMul, Nat.reduceSub, Int.reduceToNat, Int.reduceEq, Int.reduceLT, Int.reduceLE, Int.reduceNeg, Int.reduceAdd, Int.reduceSub, Int.reduceMul, Try.f34, kr34, kp34_12, kp34_5, ow34_12, ow34_5, ty3, ty22, h2, h3, h5, hl]
          by_cases hp : 400 < pr E
          · rw [if_pos hp, if_neg (fun h : okX E => by have q : pr E ≤ 400 := h.2; omega)]
          · rw [if_neg hp, if_pos (show okX E from ⟨⟨by omega, hE⟩, by omega⟩)]
      · rw [if_neg hE] at h5
        simp (config := { maxSteps := 1000000 }) (disch := omega) only [push_cast, ↓reduceIte, Nat.reduceEqDiff, Nat.reduceAdd, Nat.reduceLT, Nat.reduceLeDiff, Nat.reduceBEq, Nat.reduceMul, Nat.reduceSub, Int.reduceToNat, Int.reduceEq, Int.reduceLT, Int.reduceLE, Int.reduceNeg, Int.reduceAdd, Int.reduceSub, Int.reduceMul, Try.f34, kr34, kp34_12, kp34_5, ow34_12, ow34_5, ty3, ty22, h2, h3, h5]
        rw [if_neg (fun h : okX E => hE h.1.2)]
theorem rl_Subs3 (h3 : E.length ≤ 3) (hE : ∀ e ∈ E, 1 ≤ e ∧ e ≤ 400) : ∀ (r : List Int) (i : Nat) (n : Int) (out : List Int), E.drop i = r → 0 ≤ n → n ≤ 4000 → out.length = i →
    lp E0 pr0 65 3 ⟨[(0, SL b c E.length (ints E)), (1, I n), (5, .sl 0 0 out.length 1 none), (6, I i)], [(0, .arr (ints out) 0 1)], 1⟩ =
      some (.exit 0, ⟨[(5, .sl 0 0 (out ++ subsQ r n).length 1 none)], [(0, .arr (ints (out ++ subsQ r n)) 0 1)], 1⟩) := by
  intro r
  induction r with
  | nil =>
    intro i n out h1 h2 h4 ho
    have h5 := drop_nil h1
    have h6 : ¬ (i : Int) < E.length := by omega
    rw [lp_eq lp65_3]
    simp (config := { maxSteps := 1000000 }) (disch := omega) only [push_cast, ↓reduceIte, Nat.reduceEqDiff, Nat.reduceAdd, Nat.reduceLT, Nat.reduceLeDiff, Nat.reduceBEq, Nat.reduceMul, Nat.reduceSub, Int.reduceToNat, Int.reduceEq, Int.reduceLT, Int.reduceLE, Int.reduceNeg, Int.reduceAdd, Int.reduceSub, Int.reduceMul, Try.f65, kr65, kp65_3, ow65_3, ty3, ty22, h6, subsQ, List.append_nil]
  | cons x r ih =>
    intro i n out h1 h2 h4 ho
    obtain ⟨g1, g2, g3⟩ := drop_cons h1
    have g8 : (i : Int) < E.length := by omega
    obtain ⟨e0, e1⟩ := hE x (List.mem_of_getElem? g2)
    have hx0 : ¬ x = 0 := by omega
    have q0 : 0 ≤ Int.tdiv n x ∧ Int.tdiv n x ≤ n := by
      rw [Int.tdiv_eq_ediv_of_nonneg h2]
      exact ⟨Int.ediv_nonneg h2 (by omega), Int.ediv_le_self _ h2⟩
    have w1 : IntKind.i64.wrap (Int.tdiv n x) = Int.tdiv n x := w64 (by omega) (by omega)
    have ih' := ih (i + 1) (Int.tdiv n x) (out ++ [Int.tmod n x]) g3 q0.1 (by omega) (by simp; omega)
    rw [List.append_assoc, show [Int.tmod n x] ++ subsQ r (Int.tdiv n x) = subsQ (x :: r) n from rfl] at ih'
    simp only [cast1, List.length_append, List.length_cons, List.length_nil, Nat.zero_add, Nat.add_zero, Int.natCast_zero, Int.natCast_add, Int.zero_add, ints_1, ints_0, ] at ih'
    rw [lp_eq lp65_3]
    simp (config := { maxSteps := 1000000 }) (disch := omega) only [push_cast, ↓reduceIte, Nat.reduceEqDiff, Nat.reduceAdd, Nat.reduceLT, Nat.reduceLeDiff, Nat.reduceBEq, Nat.reduceMul, Nat.reduceSub, Int.reduceToNat, Int.reduceEq, Int.reduceLT, Int.reduceLE, Int.reduceNeg, Int.reduceAdd, Int.reduceSub, Int.reduceMul, Try.f65, kr65, kp65_3, ow65_3, ty3, ty22, g1, g8, getD_of g2, hx0, w1, ih', ne_eq]
theorem r17_Subs (h3 : E.length ≤ 3) (hE : ∀ e ∈ E, 1 ≤ e ∧ e ≤ 400) (n : Int) (h0 : 0 ≤ n) (h1 : n ≤ 4000) :
    CALL 65 [SL b c E.length (ints E), I n] = some (.sl 0 0 (subsQ E n).length 1 none, [ints (subsQ E n)]) := by
  have h := rl_Subs3 b c E h3 hE E 0 n [] rfl h0 h1 rfl
  simp only [cast1, List.length_append, List.length_cons, List.length_nil, Nat.zero_add, Nat.add_zero, Int.natCast_zero, Int.natCast_add, Int.zero_add, ints_1, ints_0, List.nil_append] at h
  have hr : rowAt (ints (subsQ E n)) 0 (subsQ E n).length = ints (subsQ E n) := rowAt_all _ _ (by rw [ints_len])
  refine lim_run (fn := Try.f65) fn65 rfl body65 (Nat.le_of_ble_eq_true rfl) ok65 ?_
  simp (config := { maxSteps := 1000000 }) (disch := omega) only [push_cast, ↓reduceIte, Nat.reduceEqDiff, Nat.reduceAdd, Nat.reduceLT, Nat.reduceLeDiff, Nat.reduceBEq, Nat.reduceMul, Nat.reduceSub, Int.reduceToNat, Int.reduceEq, Int.reduceLT, Int.reduceLE, Int.reduceNeg, Int.reduceAdd, Int.reduceSub, Int.reduceMul, Try.f65, kr65, kp65_3, ow65_3, ty3, ty22, h, hr]
end
theorem subs_in : ∀ (E : List Int) (n : Int), (∀ e ∈ E, 1 ≤ e ∧ e ≤ 400) → 0 ≤ n → ∀ x ∈ subsQ E n, 0 ≤ x ∧ x ≤ 400
  | [], n, _, _, x, h => by simp [subsQ] at h
  | e :: E, n, hE, h0, x, h => by
    have he := hE e (by simp)
    rw [subsQ] at h
    rcases List.mem_cons.1 h with rfl | h
    · have := Int.tmod_nonneg e h0
      have := Int.tmod_lt_of_pos n (show 0 < e by omega)
      omega
    · refine subs_in E _ (fun y hy => hE y (by simp [hy])) ?_ x h
      rw [Int.tdiv_eq_ediv_of_nonneg h0]
      exact Int.ediv_nonneg h0 (by omega)
section
variable (ar base : Int) (b1 b2 : Bool) (c1 c2 : Option Nat) (E S : List Int)
theorem rl_Place4 (h3 : S.length ≤ 3) (hN : allN S) (V : List Int) (hV : V.length = S.length) (hV4 : ∀ x ∈ V, 0 ≤ x ∧ x ≤ 400) : ∀ (r q : List Int) (i : Nat) (a : Int), V.drop i = r → S.drop i = q →
    -2000000000 + 400000000 * (r.length : Int) ≤ a → a ≤ 2000000000 - 400000000 * (r.length : Int) →
    lp E0 pr0 51 4 ⟨[(4, .pt 0 0), (7, .sl 1 0 V.length 1 none), (8, I a), (9, I i)], [(0, .box [I ar, I base, SL b2 c2 S.length (ints S)]), (1, .arr (ints V) 1 1)], 2⟩ =
      some (.exit 0, ⟨[(8, I (a + dotQ r q))], [], 0⟩) := by
  intro r
  induction r with
  | nil =>
    intro q i a h1 h2 b1 b2
    have h5 := drop_nil h1
    have h6 : ¬ (i : Int) < V.length := by omega
    rw [lp_eq lp51_4]
    simp (config := { maxSteps := 1000000 }) (disch := omega) only [push_cast, ↓reduceIte, Nat.reduceEqDiff, Nat.reduceAdd, Nat.reduceLT, Nat.reduceLeDiff, Nat.reduceBEq, Nat.reduceMul, Nat.reduceSub, Int.reduceToNat, Int.reduceEq, Int.reduceLT, Int.reduceLE, Int.reduceNeg, Int.reduceAdd, Int.reduceSub, Int.reduceMul, Try.f51, kr51, kp51_4, ow51_4, ty3, ty22, ty24, h6, dotQ, Int.add_zero]
  | cons x r ih =>
    intro q i a h1 h2 b1 b2
    obtain ⟨g1, g2, g3⟩ := drop_cons h1
    obtain ⟨s, q, rfl⟩ : ∃ s q', q = s :: q' := by
      cases q with
      | nil => have := drop_nil h2; omega
      | cons s q => exact ⟨s, q, rfl⟩
    obtain ⟨g4, g5, g6⟩ := drop_cons h2
    have g7 : (i : Int) < S.length := by omega
    have g8 : (i : Int) < V.length := by omega
    obtain ⟨v0, v1⟩ := hV4 x (List.mem_of_getElem? g2)
    have hs := hN s (List.mem_of_getElem? g5)
    have m := mul4 hs v0 v1
    simp only [List.length_cons, cast1] at b1 b2
    have ih' := ih q (i + 1) (a + x * s) g3 g6 (by omega) (by omega)
    rw [show a + x * s + dotQ r q = a + dotQ (x :: r) (s :: q) by simp only [dotQ]; omega] at ih'
    simp only [cast1, List.length_append, List.length_cons, List.length_nil, Nat.zero_add, Nat.add_zero, Int.natCast_zero, Int.natCast_add, Int.zero_add, ints_1, ints_0, ] at ih'
    rw [lp_eq lp51_4]
    simp (config := { maxSteps := 1000000 }) (disch := omega) only [push_cast, ↓reduceIte, Nat.reduceEqDiff, Nat.reduceAdd, Nat.reduceLT, Nat.reduceLeDiff, Nat.reduceBEq, Nat.reduceMul, Nat.reduceSub, Int.reduceToNat, Int.reduceEq, Int.reduceLT, Int.reduceLE, Int.reduceNeg, Int.reduceAdd, Int.reduceSub, Int.reduceMul, Try.f51, kr51, kp51_4, ow51_4, ty3, ty22, ty24, g1, g4, g7, g8, getD_of g2, getD_of g5, ih']
theorem r17_Place (h : okR base E S) (h0 : pr E ≠ 0) (n : Nat) (hn : n ≤ 4000) : CALL 51 [SL b1 c1 E.length (ints E), Rf ar base b2 c2 S, I n] = some (I (base + dotQ (subsQ E n) S), []) := by
  have he := okX_pos h.1 h0
  have h3 := h.1.1.1.2
  have hb := h.2.2.1
  unfold near at hb
  have hs := fun b c => r17_Subs b c E h3 he n (by omega) (by omega)
  have hl := subsQ_len E n
  have h4 := rl_Place4 ar base b2 c2 S (by have := h.2.1; omega) h.2.2.2 (subsQ E n) (by rw [hl, h.2.1]) (subs_in E n he (by omega)) (subsQ E n) S 0 base rfl rfl (by omega) (by omega)
  simp only [cast1, List.length_append, List.length_cons, List.length_nil, Nat.zero_add, Nat.add_zero, Int.natCast_zero, Int.natCast_add, Int.zero_add, ints_1, ints_0, ] at h4
  refine lim_run (fn := Try.f51) fn51 rfl body51 (Nat.le_of_ble_eq_true rfl) ok51 ?_
  simp (config := { maxSteps := 1000000 }) (disch := omega) only [push_cast, ↓reduceIte, Nat.reduceEqDiff, Nat.reduceAdd, Nat.reduceLT, Nat.reduceLeDiff, Nat.reduceBEq, Nat.reduceMul, Nat.reduceSub, Int.reduceToNat, Int.reduceEq, Int.reduceLT, Int.reduceLE, Int.reduceNeg, Int.reduceAdd, Int.reduceSub, Int.reduceMul, Try.f51, kr51, kp51_4, ow51_4, ty3, ty22, ty24, hs, h4]
theorem rl_All3 (h : okR base E S) (N : Nat) (hN : pr E = N) : ∀ (d i : Nat) (out : List Int), i + d = N → out.length = i →
    lp E0 pr0 40 3 ⟨[(0, SL b1 c1 E.length (ints E)), (3, .pt 0 0), (5, .sl 1 0 out.length 1 none), (6, I i)], [(0, .box [I ar, I base, SL b2 c2 S.length (ints S)]), (1, .arr (ints out) 1 1)], 2⟩ =
      some (.exit 0, ⟨[(5, .sl 0 0 (out ++ ((List.range' i d).map fun n : Nat => base + dotQ (subsQ E n) S)).length 1 none)], [(0, .arr (ints (out ++ ((List.range' i d).map fun n : Nat => base + dotQ (subsQ E n) S))) 0 1)], 1⟩) := by
  have hT := fun b c => r17_Turns b c E
  rw [many_some h.1, hN] at hT
  have hN4 := h.1.2
  intro d
  induction d with
  | zero =>
    intro i out hi ho
    have h6 : ¬ (i : Int) < N := by omega
    rw [lp_eq lp40_3]
    simp (config := { maxSteps := 1000000 }) (disch := omega) only [push_cast, ↓reduceIte, Nat.reduceEqDiff, Nat.reduceAdd, Nat.reduceLT, Nat.reduceLeDiff, Nat.reduceBEq, Nat.reduceMul, Nat.reduceSub, Int.reduceToNat, Int.reduceEq, Int.reduceLT, Int.reduceLE, Int.reduceNeg, Int.reduceAdd, Int.reduceSub, Int.reduceMul, Try.f40, kr40, kp40_3, ow40_3, ty3, ty22, ty24, hT, h6, List.range'_zero, List.map_nil, List.append_nil]
  | succ d ih =>
    intro i out hi ho
    have h6 : (i : Int) < N := by omega
    have hp := fun b c b' c' => r17_Place ar base b b' c c' E S h (by omega) i (by omega)
    have ih' := ih (i + 1) (out ++ [base + dotQ (subsQ E i) S]) (by omega) (by simp; omega)
    rw [List.append_assoc, show [base + dotQ (subsQ E i) S] ++ ((List.range' (i + 1) d).map fun n : Nat => base + dotQ (subsQ E n) S) = (List.range' i (d + 1)).map fun n : Nat => base + dotQ (subsQ E n) S by rw [List.range'_succ]; rfl] at ih'
    simp only [cast1, List.length_append, List.length_cons, List.length_nil, Nat.zero_add, Nat.add_zero, Int.natCast_zero, Int.natCast_add, Int.zero_add, ints_1, ints_0, ] at ih'
    rw [lp_eq lp40_3]
    simp (config := { maxSteps := 1000000 }) (disch := omega) only [push_cast, ↓reduceIte, Nat.reduceEqDiff, Nat.reduceAdd, Nat.reduceLT, Nat.reduceLeDiff, Nat.reduceBEq, Nat.reduceMul, Nat.reduceSub, Int.reduceToNat, Int.reduceEq, Int.reduceLT, Int.reduceLE, Int.reduceNeg, Int.reduceAdd, Int.reduceSub, Int.reduceMul, Try.f40, kr40, kp40_3, ow40_3, ty3, ty22, ty24, hT, h6, hp, ih']
theorem r17_All (h : okR base E S) : CALL 40 [SL b1 c1 E.length (ints E), Rf ar base b2 c2 S] = some (.sl 0 0 (placesR base E S).length 1 none, [ints (placesR base E S)]) := by
  have hp := pr_nonneg fun e he => (h.1.1.2 e he).1
  have hl := rl_All3 ar base b1 b2 c1 c2 E S h (pr E).toNat (by omega) (pr E).toNat 0 [] (by omega) rfl
  rw [List.nil_append, ← List.range_eq_range', ← placesR_eq h] at hl
  simp only [cast1, List.length_append, List.length_cons, List.length_nil, Nat.zero_add, Nat.add_zero, Int.natCast_zero, Int.natCast_add, Int.zero_add, ints_1, ints_0, ] at hl
  have hr : rowAt (ints (placesR base E S)) 0 (placesR base E S).length = ints (placesR base E S) := rowAt_all _ _ (by rw [ints_len])
  refine lim_run (fn := Try.f40) fn40 rfl body40 (Nat.le_of_ble_eq_true rfl) ok40 ?_
  simp (config := { maxSteps := 1000000 }) (disch := omega) only [push_cast, ↓reduceIte, Nat.reduceEqDiff, Nat.reduceAdd, Nat.reduceLT, Nat.reduceLeDiff, Nat.reduceBEq, Nat.reduceMul, Nat.reduceSub, Int.reduceToNat, Int.reduceEq, Int.reduceLT, Int.reduceLE, Int.reduceNeg, Int.reduceAdd, Int.reduceSub, Int.reduceMul, Try.f40, kr40, kp40_3, ow40_3, ty3, ty22, ty24, hl, hr]
theorem rl_Valid17 (hS : S.length ≤ 3) : ∀ (r : List Int) (i : Nat), S.drop i = r →
    lp E0 pr0 29 4 ⟨[(3, .pt 0 0), (5, I i)], [(0, .box [I ar, I base, SL b2 c2 S.length (ints S)])], 1⟩ =
      if allN r then some (.exit 0, ⟨[], [], 0⟩) else some (.ret, ⟨[(4, B false)], [], 0⟩) := by
  intro r
  induction r with
  | nil =>
    intro i h1
    have h5 := drop_nil h1
    have h6 : ¬ (i : Int) < S.length := by omega
    rw [if_pos (show allN [] from fun x hx => by simp at hx)]
    rw [lp_eq lp29_4]
    simp (config := { maxSteps := 1000000 }) (disch := omega) only [push_cast, ↓reduceIte, Nat.reduceEqDiff, Nat.reduceAdd, Nat.reduceLT, Nat.reduceLeDiff, Nat.reduceBEq, Nat.reduceMul, Nat.reduceSub, Int.reduceToNat, Int.reduceEq, Int.reduceLT, Int.reduceLE, Int.reduceNeg, Int.reduceAdd, Int.reduceSub, Int.reduceMul, Try.f29, kr29, kp29_4, ow29_4, ty3, ty4, ty22, ty24, tb4, h6]
  | cons x r ih =>
    intro i h1
    obtain ⟨g1, g2, g3⟩ := drop_cons h1
    have g8 : (i : Int) < S.length := by omega
    have ih' := ih (i + 1) g3
    simp only [cast1, List.length_append, List.length_cons, List.length_nil, Nat.zero_add, Nat.add_zero, Int.natCast_zero, Int.natCast_add, Int.zero_add, ints_1, ints_0, ] at ih'
    have e : allN (x :: r) ↔ near x ∧ allN r := by unfold allN; simp
    rw [lp_eq lp29_4]
    by_cases hx : near x
    · have e' : (if allN (x :: r) then some (Ex.exit 0, (⟨[], [], 0⟩ : St)) else some (Ex.ret, ⟨[(4, B false)], [], 0⟩)) = if allN r then some (Ex.exit 0, ⟨[], [], 0⟩) else some (Ex.ret, ⟨[(4, B false)], [], 0⟩) := by
        by_cases hr : allN r
        · rw [if_pos hr, if_pos (e.2 ⟨hx, hr⟩)]
        · rw [if_neg hr, if_neg fun h => hr (e.1 h).2]
      rw [e']
      simp (config := { maxSteps := 1000000 }) (disch := omega) only [push_cast, ↓reduceIte, Nat.reduceEqDiff, Nat.reduceAdd, Nat.reduceLT, Nat.reduceLeDiff, Nat.reduceBEq, Nat.reduceMul, Nat.reduceSub, Int.reduceToNat, Int.reduceEq, Int.reduceLT, Int.reduceLE, Int.reduceNeg, Int.reduceAdd, Int.reduceSub, Int.reduceMul, Try.f29, kr29, kp29_4, ow29_4, ty3, ty4, ty22, ty24, tb4, g1, g8, getD_of g2, r17_within, hx, ih']
    · rw [if_neg fun h => hx (e.1 h).1]
      simp (config := { maxSteps := 1000000 }) (disch := omega) only [push_cast, ↓reduceIte, Nat.reduceEqDiff, Nat.reduceAdd, Nat.reduceLT, Nat.reduceLeDiff, Nat.reduceBEq, Nat.reduceMul, Nat.reduceSub, Int.reduceToNat, Int.reduceEq, Int.reduceLT, Int.reduceLE, Int.reduceNeg, Int.reduceAdd, Int.reduceSub, Int.reduceMul, Try.f29, kr29, kp29_4, ow29_4, ty3, ty4, ty22, ty24, tb4, g1, g8, getD_of g2, r17_within, hx]
theorem r17_Valid : CALL 29 [SL b1 c1 E.length (ints E), Rf ar base b2 c2 S] = some (B (decide (okR base E S)), []) := by
  have hT := fun b c => r17_Turns b c E
  refine lim_run (fn := Try.f29) fn29 rfl body29 (Nat.le_of_ble_eq_true rfl) ok29 ?_
  by_cases h1 : manyQ E < 0
  · simp (config := { maxSteps := 1000000 }) (disch := omega) only [push_cast, ↓reduceIte, Nat.reduceEqDiff, Nat.reduceAdd, Nat.reduceLT, Nat.reduceLeDiff, Nat.reduceBEq, Nat.reduceMul, Nat.reduceSub, Int.reduceToNat, Int.reduceEq, Int.reduceLT, Int.reduceLE, Int.reduceNeg, Int.reduceAdd, Int.reduceSub, Int.reduceMul, Try.f29, kr29, kp29_4, ow29_4, ty3, ty4, ty22, ty24, tb4, hT, h1]
    rw [decide_eq_false (p := okR base E S) (fun h => many_neg.1 h1 h.1)]
  · have hx : okX E := Decidable.byContradiction fun hc => h1 (many_neg.2 hc)
    have h3' := hx.1.1.2
    by_cases h2 : (S.length : Int) = E.length
    · by_cases h3 : near base
      · have hl := rl_Valid17 ar base b2 c2 S (by omega) S 0 rfl
        simp only [cast1, List.length_append, List.length_cons, List.length_nil, Nat.zero_add, Nat.add_zero, Int.natCast_zero, Int.natCast_add, Int.zero_add, ints_1, ints_0, ] at hl
        by_cases h4 : allN S
        · rw [if_pos h4] at hl
          simp (config := { maxSteps := 1000000 }) (disch := omega) only [push_cast, ↓reduceIte, Nat.reduceEqDiff, Nat.reduceAdd, Nat.reduceLT, Nat.reduceLeDiff, Nat.reduceBEq, Nat.reduceMul, Nat.reduceSub, Int.reduceToNat, Int.reduceEq, Int.reduceLT, Int.reduceLE, Int.reduceNeg, Int.reduceAdd, Int.reduceSub, Int.reduceMul, Try.f29, kr29, kp29_4, ow29_4, ty3, ty4, ty22, ty24, tb4, hT, h1, h2, h3, r17_within, hl]
          rw [decide_eq_true (p := okR base E S) ⟨hx, by omega, h3, h4⟩]
        · rw [if_neg h4] at hl
          simp (config := { maxSteps := 1000000 }) (disch := omega) only [push_cast, ↓reduceIte, Nat.reduceEqDiff, Nat.reduceAdd, Nat.reduceLT, Nat.reduceLeDiff, Nat.reduceBEq, Nat.reduceMul, Nat.reduceSub, Int.reduceToNat, Int.reduceEq, Int.reduceLT, Int.reduceLE, Int.reduceNeg, Int.reduceAdd, Int.reduceSub, Int.reduceMul, Try.f29, kr29, kp29_4, ow29_4, ty3, ty4, ty22, ty24, tb4, hT, h1, h2, h3, r17_within, hl]
          rw [decide_eq_false (p := okR base E S) (fun h => h4 h.2.2.2)]
      · simp (config := { maxSteps := 1000000 }) (disch := omega) only [push_cast, ↓reduceIte, Nat.reduceEqDiff, Nat.reduceAdd, Nat.reduceLT, Nat.reduceLeDiff, Nat.reduceBEq, Nat.reduceMul, Nat.reduceSub, Int.reduceToNat, Int.reduceEq, Int.reduceLT, Int.reduceLE, Int.reduceNeg, Int.reduceAdd, Int.reduceSub, Int.reduceMul, Try.f29, kr29, kp29_4, ow29_4, ty3, ty4, ty22, ty24, tb4, hT, h1, h2, h3, r17_within]
        rw [decide_eq_false (p := okR base E S) (fun h => h3 h.2.2.1)]
    · simp (config := { maxSteps := 1000000 }) (disch := omega) only [push_cast, ↓reduceIte, Nat.reduceEqDiff, Nat.reduceAdd, Nat.reduceLT, Nat.reduceLeDiff, Nat.reduceBEq, Nat.reduceMul, Nat.reduceSub, Int.reduceToNat, Int.reduceEq, Int.reduceLT, Int.reduceLE, Int.reduceNeg, Int.reduceAdd, Int.reduceSub, Int.reduceMul, Try.f29, kr29, kp29_4, ow29_4, ty3, ty4, ty22, ty24, tb4, hT, h1, h2]
      rw [decide_eq_false (p := okR base E S) (fun h => by have := h.2.1; omega)]
theorem r17_Places : CALL 23 [SL b1 c1 E.length (ints E), Rf ar base b2 c2 S] = some (.tup [.sl 0 0 (placesR base E S).length 1 none, I (errR base E S)], [ints (placesR base E S)]) := by
  have hv := fun b c b' c' => r17_Valid ar base b b' c c' E S
  unfold errR
  refine lim_run (fn := Try.f23) fn23 rfl body23 (Nat.le_of_ble_eq_true rfl) ok23 ?_
  by_cases hd : okR base E S
  · have hp := fun b c b' c' => r17_All ar base b b' c c' E S hd
    have hr : rowAt (ints (placesR base E S)) 0 (placesR base E S).length = ints (placesR base E S) := rowAt_all _ _ (by rw [ints_len])
    simp (config := { maxSteps := 1000000 }) (disch := omega) only [push_cast, ↓reduceIte, Nat.reduceEqDiff, Nat.reduceAdd, Nat.reduceLT, Nat.reduceLeDiff, Nat.reduceBEq, Nat.reduceMul, Nat.reduceSub, Int.reduceToNat, Int.reduceEq, Int.reduceLT, Int.reduceLE, Int.reduceNeg, Int.reduceAdd, Int.reduceSub, Int.reduceMul, Try.f23, kr23, ty3, ty22, ty24, ty29, hv, hd, hp, hr]
  · have e : placesR base E S = [] := if_neg hd
    rw [e]
    simp (config := { maxSteps := 1000000 }) (disch := omega) only [push_cast, ↓reduceIte, Nat.reduceEqDiff, Nat.reduceAdd, Nat.reduceLT, Nat.reduceLeDiff, Nat.reduceBEq, Nat.reduceMul, Nat.reduceSub, Int.reduceToNat, Int.reduceEq, Int.reduceLT, Int.reduceLE, Int.reduceNeg, Int.reduceAdd, Int.reduceSub, Int.reduceMul, Try.f23, kr23, ty3, ty22, ty24, ty29, hv, hd]
theorem r17_asked (ar' base' : Int) (b3 : Bool) (c3 : Option Nat) (S' : List Int) : CALL 36 [SL b1 c1 E.length (ints E), Rf ar base b2 c2 S, Rf ar' base' b3 c3 S'] = some (B (decide (okR base E S ∧ okR base' E S')), []) := by
  have hv := fun b c b' c' => r17_Valid ar base b b' c c' E S
  have hv' := fun b c b' c' => r17_Valid ar' base' b b' c c' E S'
  refine lim_run (fn := Try.f36) fn36 rfl body36 (Nat.le_of_ble_eq_true rfl) ok36 ?_
  by_cases h1 : okR base E S
  · by_cases h2 : okR base' E S'
    · simp (config := { maxSteps := 1000000 }) (disch := omega) only [push_cast, ↓reduceIte, Nat.reduceEqDiff, Nat.reduceAdd, Nat.reduceLT, Nat.reduceLeDiff, Nat.reduceBEq, Nat.reduceMul, Nat.reduceSub, Int.reduceToNat, Int.reduceEq, Int.reduceLT, Int.reduceLE, Int.reduceNeg, Int.reduceAdd, Int.reduceSub, Int.reduceMul, Try.f36, kr36, ty3, ty4, ty22, ty24, tb4, hv, hv', h1, h2]
    · simp (config := { maxSteps := 1000000 }) (disch := omega) only [push_cast, ↓reduceIte, Nat.reduceEqDiff, Nat.reduceAdd, Nat.reduceLT, Nat.reduceLeDiff, Nat.reduceBEq, Nat.reduceMul, Nat.reduceSub, Int.reduceToNat, Int.reduceEq, Int.reduceLT, Int.reduceLE, Int.reduceNeg, Int.reduceAdd, Int.reduceSub, Int.reduceMul, Try.f36, kr36, ty3, ty4, ty22, ty24, tb4, hv, hv', h1, h2]
  · simp (config := { maxSteps := 1000000 }) (disch := omega) only [push_cast, ↓reduceIte, Nat.reduceEqDiff, Nat.reduceAdd, Nat.reduceLT, Nat.reduceLeDiff, Nat.reduceBEq, Nat.reduceMul, Nat.reduceSub, Int.reduceToNat, Int.reduceEq, Int.reduceLT, Int.reduceLE, Int.reduceNeg, Int.reduceAdd, Int.reduceSub, Int.reduceMul, Try.f36, kr36, ty3, ty4, ty22, ty24, tb4, hv, hv', h1]
end
end Go.Proofs.Ytancjhajhdhfbaa.Tev
