/- What overlap's small functions return: which extents and Refs are right, the places, the ends. -/
import Derived.Test.YtnbijiopcgfmfaaCSlc
import Derived.Test.YtnbijiopcgfmfaaQ17
namespace Go.Proofs.Ytnbijiopcgfmfaa.Tev
open Go Go.RowKit Go.Proofs Go.Proofs.Ytnbijiopcgfmfaa.Q
set_option linter.unusedSectionVars false
set_option maxRecDepth 100000
set_option maxHeartbeats 0
set_option linter.unusedSimpArgs false
set_option linter.unusedVariables false
theorem o_isNumber (n : Int) : CALL 72 [I n] = some (B (decide (near n)), []) := by
  refine lim_run (fn := Try.f72) fn72 rfl body72 (Nat.le_of_ble_eq_true rfl) ok72 ?_
  simp (config := { maxSteps := 1000000 }) (disch := omega) only [push_cast, ↓reduceIte, Nat.reduceEqDiff, Nat.reduceAdd, Nat.reduceLT, Nat.reduceLeDiff, Nat.reduceBEq, Nat.reduceMul, Nat.reduceSub, Int.reduceToNat, Int.reduceEq, Int.reduceLT, Int.reduceLE, Int.reduceNeg, Int.reduceAdd, Int.reduceSub, Int.reduceMul, Try.f72, kr72, ty4, tb4]
  unfold near
  by_cases h : -1000000 ≤ n <;> simp [h]
theorem o_Valid1 (n : Int) : CALL 73 [I n] = some (B (decide (¬ near n)), []) := by
  refine lim_run (fn := Try.f73) fn73 rfl body73 (Nat.le_of_ble_eq_true rfl) ok73 ?_
  simp (config := { maxSteps := 1000000 }) (disch := omega) only [push_cast, ↓reduceIte, Nat.reduceEqDiff, Nat.reduceAdd, Nat.reduceLT, Nat.reduceLeDiff, Nat.reduceBEq, Nat.reduceMul, Nat.reduceSub, Int.reduceToNat, Int.reduceEq, Int.reduceLT, Int.reduceLE, Int.reduceNeg, Int.reduceAdd, Int.reduceSub, Int.reduceMul, Try.f73, kr73, ty4, tb4, o_isNumber]
theorem o_Many1 (n : Int) : CALL 74 [I n] = some (B (decide (n < 0 ∨ 400 < n)), []) := by
  refine lim_run (fn := Try.f74) fn74 rfl body74 (Nat.le_of_ble_eq_true rfl) ok74 ?_
  simp (config := { maxSteps := 1000000 }) (disch := omega) only [push_cast, ↓reduceIte, Nat.reduceEqDiff, Nat.reduceAdd, Nat.reduceLT, Nat.reduceLeDiff, Nat.reduceBEq, Nat.reduceMul, Nat.reduceSub, Int.reduceToNat, Int.reduceEq, Int.reduceLT, Int.reduceLE, Int.reduceNeg, Int.reduceAdd, Int.reduceSub, Int.reduceMul, Try.f74, kr74, ty4, tb4]
  by_cases h : n < 0 <;> simp [h]
theorem ol_Many5 (b : Bool) (cap : Option Nat) (E : List Int) (h3 : E.length ≤ 3) (hE : ∀ e ∈ E, x4 e) :
    ∀ (r : List Int) (i : Nat) (a : Int), E.drop i = r → 0 ≤ a → a ≤ X4 i → lp E0 pr0 39 5 ⟨[(3, I a), (18, SL b cap E.length (ints E)), (19, I E.length), (20, I i)], [], 0⟩ = some (.exit 0, ⟨[(3, I (a * pr r))], [], 0⟩) := by
  intro r
  induction r with
  | nil =>
    intro i a hi h0 h1
    have h2 := drop_nil hi
    have h2 : ¬ (i : Int) < E.length := by omega
    rw [lp_eq lp39_5]
    simp (config := { maxSteps := 1000000 }) (disch := omega) only [push_cast, ↓reduceIte, Nat.reduceEqDiff, Nat.reduceAdd, Nat.reduceLT, Nat.reduceLeDiff, Nat.reduceBEq, Nat.reduceMul, Nat.reduceSub, Int.reduceToNat, Int.reduceEq, Int.reduceLT, Int.reduceLE, Int.reduceNeg, Int.reduceAdd, Int.reduceSub, Int.reduceMul, Try.f39, kr39, kp39_5, ow39_5, ty3, ty28, h2]
    simp [pr]
  | cons x r ih =>
    intro i a hi h0 h1
    obtain ⟨h2, h4, h5⟩ := drop_cons hi
    have h6 : (i : Int) < E.length := by omega
    obtain ⟨e0, e1⟩ := hE x (List.mem_of_getElem? h4)
    obtain ⟨b0, b1⟩ := X4_step (n := i) (by omega) h0 h1 e0 e1
    have b2 := X4_le (i + 1)
    have ih' := ih (i + 1) (a * x) h5 b0 b1
    simp only [cast1] at ih'
    rw [lp_eq lp39_5]
    simp (config := { maxSteps := 1000000 }) (disch := omega) only [push_cast, ↓reduceIte, Nat.reduceEqDiff, Nat.reduceAdd, Nat.reduceLT, Nat.reduceLeDiff, Nat.reduceBEq, Nat.reduceMul, Nat.reduceSub, Int.reduceToNat, Int.reduceEq, Int.reduceLT, Int.reduceLE, Int.reduceNeg, Int.reduceAdd, Int.reduceSub, Int.reduceMul, Try.f39, kr39, kp39_5, ow39_5, ty3, ty28, h2, h6, getD_of h4, ih']
    rw [pr, Int.mul_assoc]
theorem o_Many (b : Bool) (cap : Option Nat) (E : List Int) (hx : (E.length : Int) ≤ 9223372036854775806) : CALL 39 [SL b cap E.length (ints E)] = some (I (manyQ E), []) := by
  refine lim_run (fn := Try.f39) fn39 rfl body39 (Nat.le_of_ble_eq_true rfl) ok39 ?_
  have hc := c_ContainsFunc 74 [] _ o_Many1 shut_nil
  unfold manyQ
  by_cases h2 : (E.length : Int) < 1
  · simp (config := { maxSteps := 1000000 }) (disch := omega) only [push_cast, ↓reduceIte, Nat.reduceEqDiff, Nat.reduceAdd, Nat.reduceLT, Nat.reduceLeDiff, Nat.reduceBEq, Nat.reduceMul, Nat.reduceSub, Int.reduceToNat, Int.reduceEq, Int.reduceLT, Int.reduceLE, Int.reduceNeg, Int.reduceAdd, Int.reduceSub, Int.reduceMul, Try.f39, kr39, kp39_5, ow39_5, ty3, ty28, hc, h2]
    rw [if_neg (fun h : okX E => by have q : 1 ≤ E.length ∧ E.length ≤ 3 := h.1.1; omega)]
  · by_cases h3 : 3 < (E.length : Int)
    · simp (config := { maxSteps := 1000000 }) (disch := omega) only [push_cast, ↓reduceIte, Nat.reduceEqDiff, Nat.reduceAdd, Nat.reduceLT, Nat.reduceLeDiff, Nat.reduceBEq, Nat.reduceMul, Nat.reduceSub, Int.reduceToNat, Int.reduceEq, Int.reduceLT, Int.reduceLE, Int.reduceNeg, Int.reduceAdd, Int.reduceSub, Int.reduceMul, Try.f39, kr39, kp39_5, ow39_5, ty3, ty28, hc, h2, h3]
      rw [if_neg (fun h : okX E => by have q : 1 ≤ E.length ∧ E.length ≤ 3 := h.1.1; omega)]
    · by_cases hE : (E.any fun n => decide (n < 0 ∨ 400 < n)) = true
      · simp (config := { maxSteps := 1000000 }) (disch := omega) only [push_cast, ↓reduceIte, Nat.reduceEqDiff, Nat.reduceAdd, Nat.reduceLT, Nat.reduceLeDiff, Nat.reduceBEq, Nat.reduceMul, Nat.reduceSub, Int.reduceToNat, Int.reduceEq, Int.reduceLT, Int.reduceLE, Int.reduceNeg, Int.reduceAdd, Int.reduceSub, Int.reduceMul, Try.f39, kr39, kp39_5, ow39_5, ty3, ty28, hc, h2, h3, hE]
        rw [if_neg]
        intro h
        have h := h.1.2
        obtain ⟨e, he, he2⟩ := List.any_eq_true.1 hE
        have := h e he
        unfold x4 at this
        simp at he2
        omega
      · have hE' : ∀ e ∈ E, x4 e := fun e he => by
          refine Decidable.byContradiction fun hc => hE (List.any_eq_true.2 ⟨e, he, ?_⟩)
          unfold x4 at hc
          simp; omega
        have hl := ol_Many5 b cap E (by omega) hE' E 0 1 rfl (by omega) (by simp [X4])
        simp only [Int.natCast_zero, Int.one_mul] at hl
        simp (config := { maxSteps := 1000000 }) (disch := omega) only [push_cast, ↓reduceIte, Nat.reduceEqDiff, Nat.reduceAdd, Nat.reduceLT, Nat.reduceLeDiff, Nat.reduceBEq, Nat.reduceMul, Nat.reduceSub, Int.reduceToNat, Int.reduceEq, Int.reduceLT, Int.reduceLE, Int.reduceNeg, Int.reduceAdd, Int.reduceSub, Int.reduceMul, Try.f39, kr39, kp39_5, ow39_5, ty3, ty28, hc, h2, h3, hE, hl]
        by_cases hp : 400 < pr E
        · rw [if_pos hp, if_neg (fun h : okX E => by have q : pr E ≤ 400 := h.2; omega)]
        · rw [if_neg hp, if_pos (show okX E from ⟨⟨by omega, hE'⟩, by omega⟩)]
/-- A Ref as an argument. -/
abbrev Rf (ar b : Int) (b2 : Bool) (c2 : Option Nat) (S : List Int) : T := .agg [I ar, I b, SL b2 c2 S.length (ints S)]
theorem any_near17 (S : List Int) : (S.any fun n => decide (¬ near n)) = decide (¬ allN S) := by
  unfold allN
  rw [Bool.eq_iff_iff, List.any_eq_true, decide_eq_true_eq]
  simp
section
variable (ar base : Int) (b1 b2 : Bool) (c1 c2 : Option Nat) (E S : List Int)
theorem o_Valid (hE : (E.length : Int) ≤ 9223372036854775806) (hS : (S.length : Int) ≤ 9223372036854775806) :
    CALL 38 [SL b1 c1 E.length (ints E), Rf ar base b2 c2 S] = some (B (decide (okR base E S)), []) := by
  refine lim_run (fn := Try.f38) fn38 rfl body38 (Nat.le_of_ble_eq_true rfl) ok38 ?_
  have hc := c_ContainsFunc 73 [] _ o_Valid1 shut_nil
  have hm := fun b c => o_Many b c E hE
  by_cases h1 : manyQ E < 0
  · have h1' : ¬ 0 ≤ manyQ E := by omega
    simp (config := { maxSteps := 1000000 }) (disch := omega) only [push_cast, ↓reduceIte, Nat.reduceEqDiff, Nat.reduceAdd, Nat.reduceLT, Nat.reduceLeDiff, Nat.reduceBEq, Nat.reduceMul, Nat.reduceSub, Int.reduceToNat, Int.reduceEq, Int.reduceLT, Int.reduceLE, Int.reduceNeg, Int.reduceAdd, Int.reduceSub, Int.reduceMul, Try.f38, kr38, ty3, ty4, ty28, ty30, tb4, hm, h1']
    rw [decide_eq_false (fun h => many_neg.1 h1 h.1)]
  · have hx : okX E := Decidable.byContradiction fun hc => h1 (many_neg.2 hc)
    have h1' : 0 ≤ manyQ E := by omega
    by_cases h2 : (S.length : Int) = E.length
    · by_cases h3 : near base
      · have hc := hc b2 c2 S hS
        rw [any_near17] at hc
        by_cases h4 : allN S
        · simp (config := { maxSteps := 1000000 }) (disch := omega) only [push_cast, ↓reduceIte, Nat.reduceEqDiff, Nat.reduceAdd, Nat.reduceLT, Nat.reduceLeDiff, Nat.reduceBEq, Nat.reduceMul, Nat.reduceSub, Int.reduceToNat, Int.reduceEq, Int.reduceLT, Int.reduceLE, Int.reduceNeg, Int.reduceAdd, Int.reduceSub, Int.reduceMul, Try.f38, kr38, ty3, ty4, ty28, ty30, tb4, hm, h1', h2, h3, hc, h4, o_isNumber]
          rw [decide_eq_true (p := okR base E S) ⟨hx, by omega, h3, h4⟩]
        · simp (config := { maxSteps := 1000000 }) (disch := omega) only [push_cast, ↓reduceIte, Nat.reduceEqDiff, Nat.reduceAdd, Nat.reduceLT, Nat.reduceLeDiff, Nat.reduceBEq, Nat.reduceMul, Nat.reduceSub, Int.reduceToNat, Int.reduceEq, Int.reduceLT, Int.reduceLE, Int.reduceNeg, Int.reduceAdd, Int.reduceSub, Int.reduceMul, Try.f38, kr38, ty3, ty4, ty28, ty30, tb4, hm, h1', h2, h3, hc, h4, o_isNumber]
          rw [decide_eq_false (p := okR base E S) (fun h => h4 h.2.2.2)]
      · simp (config := { maxSteps := 1000000 }) (disch := omega) only [push_cast, ↓reduceIte, Nat.reduceEqDiff, Nat.reduceAdd, Nat.reduceLT, Nat.reduceLeDiff, Nat.reduceBEq, Nat.reduceMul, Nat.reduceSub, Int.reduceToNat, Int.reduceEq, Int.reduceLT, Int.reduceLE, Int.reduceNeg, Int.reduceAdd, Int.reduceSub, Int.reduceMul, Try.f38, kr38, ty3, ty4, ty28, ty30, tb4, hm, h1', h2, h3, o_isNumber]
        rw [decide_eq_false (p := okR base E S) (fun h => h3 h.2.2.1)]
    · simp (config := { maxSteps := 1000000 }) (disch := omega) only [push_cast, ↓reduceIte, Nat.reduceEqDiff, Nat.reduceAdd, Nat.reduceLT, Nat.reduceLeDiff, Nat.reduceBEq, Nat.reduceMul, Nat.reduceSub, Int.reduceToNat, Int.reduceEq, Int.reduceLT, Int.reduceLE, Int.reduceNeg, Int.reduceAdd, Int.reduceSub, Int.reduceMul, Try.f38, kr38, ty3, ty4, ty28, ty30, tb4, hm, h1', h2]
      rw [decide_eq_false (p := okR base E S) (fun h => by have := h.2.1; omega)]
theorem ol_ends3 (hE : ∀ e ∈ E, x4 e) (h3 : E.length ≤ 3) (hS : S.length = E.length) (hN : allN S) :
    ∀ (r q : List Int) (i : Nat) (x y : Int), E.drop i = r → S.drop i = q → -2000000000 + 400000000 * (r.length : Int) ≤ x → x ≤ 2000000000 - 400000000 * (r.length : Int) → -2000000000 + 400000000 * (r.length : Int) ≤ y → y ≤ 2000000000 - 400000000 * (r.length : Int) →
      lp E0 pr0 40 3 ⟨[(3, .pt 0 0), (4, I x), (5, I y), (13, SL b1 c1 E.length (ints E)), (14, I E.length), (15, I i)], [(0, .box [I ar, I base, SL b2 c2 S.length (ints S)])], 1⟩ =
        some (.exit 0, ⟨[(4, I (x + lows r q)), (5, I (y + highs r q))], [], 0⟩) := by
  intro r
  induction r with
  | nil =>
    intro q i x y h1 h2 h3 h4 h5 h6
    have h7 := drop_nil h1
    have h8 : ¬ (i : Int) < E.length := by omega
    rw [lp_eq lp40_3]
    simp (config := { maxSteps := 1000000 }) (disch := omega) only [push_cast, ↓reduceIte, Nat.reduceEqDiff, Nat.reduceAdd, Nat.reduceLT, Nat.reduceLeDiff, Nat.reduceBEq, Nat.reduceMul, Nat.reduceSub, Int.reduceToNat, Int.reduceEq, Int.reduceLT, Int.reduceLE, Int.reduceNeg, Int.reduceAdd, Int.reduceSub, Int.reduceMul, Try.f40, kr40, kp40_3, ow40_3, ty3, ty28, ty30, h8]
    simp [lows, highs]
  | cons n r ih =>
    intro q i x y h1 h2 h3 h4 h5 h6
    obtain ⟨g1, g2, g3⟩ := drop_cons h1
    obtain ⟨s, q, rfl⟩ : ∃ s q', q = s :: q' := by
      cases q with
      | nil => have := drop_nil h2; omega
      | cons s q => exact ⟨s, q, rfl⟩
    obtain ⟨g4, g5, g6⟩ := drop_cons h2
    have g7 : (i : Int) < S.length := by omega
    have g8 : (i : Int) < E.length := by omega
    obtain ⟨n0, n1⟩ := hE n (List.mem_of_getElem? g2)
    have hs := hN s (List.mem_of_getElem? g5)
    obtain ⟨w1, w2⟩ := way4 hs n0 n1
    obtain ⟨m1, m2⟩ := mn_bd (A := 400000000) w1 w2 (by omega)
    obtain ⟨m3, m4⟩ := mx_bd (A := 400000000) w1 w2 (by omega)
    simp only [List.length_cons, cast1] at h3 h4 h5 h6
    have ih' := ih q (i + 1) (x + mn (s * (n - 1)) 0) (y + mx (s * (n - 1)) 0) g3 g6 (by omega) (by omega) (by omega) (by omega)
    simp only [cast1] at ih'
    rw [lp_eq lp40_3]
    simp (config := { maxSteps := 1000000 }) (disch := omega) only [push_cast, ↓reduceIte, Nat.reduceEqDiff, Nat.reduceAdd, Nat.reduceLT, Nat.reduceLeDiff, Nat.reduceBEq, Nat.reduceMul, Nat.reduceSub, Int.reduceToNat, Int.reduceEq, Int.reduceLT, Int.reduceLE, Int.reduceNeg, Int.reduceAdd, Int.reduceSub, Int.reduceMul, Try.f40, kr40, kp40_3, ow40_3, ty3, ty28, ty30, g1, g4, g7, g8, getD_of g2, getD_of g5, ih']
    simp only [lows, highs, Int.add_assoc]
theorem o_ends (h : okR base E S) : CALL 40 [SL b1 c1 E.length (ints E), Rf ar base b2 c2 S] = some (.tup [I (base + lows E S), I (base + highs E S)], []) := by
  have h3 := h.1.1.1.2
  have hb := h.2.2.1
  unfold near at hb
  have hl := ol_ends3 ar base b1 b2 c1 c2 E S h.1.1.2 h3 h.2.1 h.2.2.2 E S 0 base base rfl rfl (by omega) (by omega) (by omega) (by omega)
  simp only [Int.natCast_zero] at hl
  refine lim_run (fn := Try.f40) fn40 rfl body40 (Nat.le_of_ble_eq_true rfl) ok40 ?_
  simp (config := { maxSteps := 1000000 }) (disch := omega) only [push_cast, ↓reduceIte, Nat.reduceEqDiff, Nat.reduceAdd, Nat.reduceLT, Nat.reduceLeDiff, Nat.reduceBEq, Nat.reduceMul, Nat.reduceSub, Int.reduceToNat, Int.reduceEq, Int.reduceLT, Int.reduceLE, Int.reduceNeg, Int.reduceAdd, Int.reduceSub, Int.reduceMul, Try.f40, kr40, kp40_3, ow40_3, ty3, ty28, ty30, hl]
end
end Go.Proofs.Ytnbijiopcgfmfaa.Tev
