/- What the sections' small functions return. -/
import Derived.Test.YtnbijiopcgfmfaaCNum
import Derived.Test.YtnbijiopcgfmfaaCSlc
namespace Go.Proofs.Ytnbijiopcgfmfaa.Tev
open Go Go.RowKit Go.Proofs Go.Proofs.Ytnbijiopcgfmfaa.Q
set_option linter.unusedSectionVars false
set_option maxRecDepth 100000
set_option maxHeartbeats 0
set_option linter.unusedSimpArgs false
set_option linter.unusedVariables false
theorem c_size1 (n : Int) : CALL 75 [I n] = some (B (decide (n < 0 ∨ 4000 < n)), []) := by
  refine lim_run (fn := Try.f75) fn75 rfl body75 (Nat.le_of_ble_eq_true rfl) ok75 ?_
  simp (config := { maxSteps := 1000000 }) (disch := omega) only [push_cast, ↓reduceIte, Nat.reduceEqDiff, Nat.reduceAdd, Nat.reduceLT, Nat.reduceLeDiff, Nat.reduceBEq, Nat.reduceMul, Nat.reduceSub, Int.reduceToNat, Int.reduceEq, Int.reduceLT, Int.reduceLE, Int.reduceNeg, Int.reduceAdd, Int.reduceSub, Int.reduceMul, Try.f75, kr75, ty4, tb4]
  by_cases h : n < 0 <;> simp [h]
theorem l_size (b : Bool) (cap : Option Nat) (E : List Int) (h3 : E.length ≤ 3) (hE : ∀ e ∈ E, 0 ≤ e ∧ e ≤ 4000) :
    ∀ (r : List Int) (i : Nat) (a : Int), E.drop i = r → 0 ≤ a → a ≤ B4 i → lp E0 pr0 42 5 ⟨[(3, I a), (13, SL b cap E.length (ints E)), (14, I E.length), (15, I i)], [], 0⟩ = some (.exit 0, ⟨[(3, I (a * pr r))], [], 0⟩) := by
  intro r
  induction r with
  | nil =>
    intro i a hi h0 h1
    have h2 := drop_nil hi
    have h2 : ¬ (i : Int) < E.length := by omega
    rw [lp_eq lp42_5]
    simp (config := { maxSteps := 1000000 }) (disch := omega) only [push_cast, ↓reduceIte, Nat.reduceEqDiff, Nat.reduceAdd, Nat.reduceLT, Nat.reduceLeDiff, Nat.reduceBEq, Nat.reduceMul, Nat.reduceSub, Int.reduceToNat, Int.reduceEq, Int.reduceLT, Int.reduceLE, Int.reduceNeg, Int.reduceAdd, Int.reduceSub, Int.reduceMul, Try.f42, kr42, kp42_5, ow42_5, ty3, ty28, h2]
    simp [pr]
  | cons x r ih =>
    intro i a hi h0 h1
    obtain ⟨h2, h4, h5⟩ := drop_cons hi
    have h6 : (i : Int) < E.length := by omega
    obtain ⟨e0, e1⟩ := hE x (List.mem_of_getElem? h4)
    obtain ⟨b0, b1⟩ := B4_step (n := i) (by omega) h0 h1 e0 e1
    have b2 := B4_le (i + 1)
    have ih' := ih (i + 1) (a * x) h5 b0 b1
    simp only [cast1] at ih'
    rw [lp_eq lp42_5]
    simp (config := { maxSteps := 1000000 }) (disch := omega) only [push_cast, ↓reduceIte, Nat.reduceEqDiff, Nat.reduceAdd, Nat.reduceLT, Nat.reduceLeDiff, Nat.reduceBEq, Nat.reduceMul, Nat.reduceSub, Int.reduceToNat, Int.reduceEq, Int.reduceLT, Int.reduceLE, Int.reduceNeg, Int.reduceAdd, Int.reduceSub, Int.reduceMul, Try.f42, kr42, kp42_5, ow42_5, ty3, ty28, h2, h6, getD_of h4, ih']
    rw [pr, Int.mul_assoc]
theorem c_size (b : Bool) (cap : Option Nat) (E : List Int) (hx : (E.length : Int) ≤ 9223372036854775806) : CALL 42 [SL b cap E.length (ints E)] = some (I (sizeQ E), []) := by
  refine lim_run (fn := Try.f42) fn42 rfl body42 (Nat.le_of_ble_eq_true rfl) ok42 ?_
  have hc := c_ContainsFunc 75 [] _ c_size1 shut_nil
  unfold sizeQ exts
  by_cases h3 : 3 < (E.length : Int)
  · simp (config := { maxSteps := 1000000 }) (disch := omega) only [push_cast, ↓reduceIte, Nat.reduceEqDiff, Nat.reduceAdd, Nat.reduceLT, Nat.reduceLeDiff, Nat.reduceBEq, Nat.reduceMul, Nat.reduceSub, Int.reduceToNat, Int.reduceEq, Int.reduceLT, Int.reduceLE, Int.reduceNeg, Int.reduceAdd, Int.reduceSub, Int.reduceMul, Try.f42, kr42, kp42_5, ow42_5, ty3, ty28, hc, h3]
    rw [if_neg (by omega)]
  · by_cases hE : (E.any fun n => decide (n < 0 ∨ 4000 < n)) = true
    · simp (config := { maxSteps := 1000000 }) (disch := omega) only [push_cast, ↓reduceIte, Nat.reduceEqDiff, Nat.reduceAdd, Nat.reduceLT, Nat.reduceLeDiff, Nat.reduceBEq, Nat.reduceMul, Nat.reduceSub, Int.reduceToNat, Int.reduceEq, Int.reduceLT, Int.reduceLE, Int.reduceNeg, Int.reduceAdd, Int.reduceSub, Int.reduceMul, Try.f42, kr42, kp42_5, ow42_5, ty3, ty28, hc, h3, hE]
      rw [if_neg]
      rintro ⟨⟨_, h⟩, _⟩
      obtain ⟨e, he, he2⟩ := List.any_eq_true.1 hE
      have := h e he
      simp at he2
      omega
    · have hE' : ∀ e ∈ E, 0 ≤ e ∧ e ≤ 4000 := fun e he => by
        refine Decidable.byContradiction fun hc => hE (List.any_eq_true.2 ⟨e, he, ?_⟩)
        simp; omega
      have hl := l_size b cap E (by omega) hE' E 0 1 rfl (by omega) (by simp [B4])
      simp only [Int.natCast_zero, Int.one_mul] at hl
      simp (config := { maxSteps := 1000000 }) (disch := omega) only [push_cast, ↓reduceIte, Nat.reduceEqDiff, Nat.reduceAdd, Nat.reduceLT, Nat.reduceLeDiff, Nat.reduceBEq, Nat.reduceMul, Nat.reduceSub, Int.reduceToNat, Int.reduceEq, Int.reduceLT, Int.reduceLE, Int.reduceNeg, Int.reduceAdd, Int.reduceSub, Int.reduceMul, Try.f42, kr42, kp42_5, ow42_5, ty3, ty28, hc, h3, hE, hl]
      by_cases hp : 4000 < pr E
      · rw [if_pos hp, if_neg (by omega)]
      · rw [if_neg hp, if_pos ⟨⟨by omega, hE'⟩, by omega⟩]
theorem c_Valid1 (n : Int) : CALL 52 [I n] = some (B (decide (¬ nearS n)), []) := by
  refine lim_run (fn := Try.f52) fn52 rfl body52 (Nat.le_of_ble_eq_true rfl) ok52 ?_
  simp (config := { maxSteps := 1000000 }) (disch := omega) only [push_cast, ↓reduceIte, Nat.reduceEqDiff, Nat.reduceAdd, Nat.reduceLT, Nat.reduceLeDiff, Nat.reduceBEq, Nat.reduceMul, Nat.reduceSub, Int.reduceToNat, Int.reduceEq, Int.reduceLT, Int.reduceLE, Int.reduceNeg, Int.reduceAdd, Int.reduceSub, Int.reduceMul, Try.f52, kr52, ty4, tb4, c_isNumber]
/-- A descriptor as an argument. -/
abbrev Dsc (b : Int) (b1 : Bool) (c1 : Option Nat) (E : List Int) (b2 : Bool) (c2 : Option Nat) (S : List Int) : T := .agg [I b, SL b1 c1 E.length (ints E), SL b2 c2 S.length (ints S)]
theorem l_ends (base : Int) (b1 b2 : Bool) (c1 c2 : Option Nat) (E S : List Int) (hE : exts E) (hS : S.length = E.length) (hN : ∀ s ∈ S, nearS s) :
    ∀ (r q : List Int) (i : Nat) (x y : Int), E.drop i = r → S.drop i = q → -100000000000000 + 10000000000000 * (r.length : Int) ≤ x → x ≤ 100000000000000 - 10000000000000 * (r.length : Int) → -100000000000000 + 10000000000000 * (r.length : Int) ≤ y → y ≤ 100000000000000 - 10000000000000 * (r.length : Int) →
      lp E0 pr0 53 3 ⟨[(1, .pt 0 0), (2, I x), (3, I y), (12, SL b2 c2 S.length (ints S)), (13, I S.length), (14, I i)], [(0, .box [I base, SL b1 c1 E.length (ints E), SL b2 c2 S.length (ints S)])], 1⟩ =
        some (.exit 0, ⟨[(2, I (x + lows r q)), (3, I (y + highs r q))], [], 0⟩) := by
  intro r
  induction r with
  | nil =>
    intro q i x y h1 h2 h3 h4 h5 h6
    have h7 := drop_nil h1
    have h8 : ¬ (i : Int) < S.length := by omega
    rw [lp_eq lp53_3]
    simp (config := { maxSteps := 1000000 }) (disch := omega) only [push_cast, ↓reduceIte, Nat.reduceEqDiff, Nat.reduceAdd, Nat.reduceLT, Nat.reduceLeDiff, Nat.reduceBEq, Nat.reduceMul, Nat.reduceSub, Int.reduceToNat, Int.reduceEq, Int.reduceLT, Int.reduceLE, Int.reduceNeg, Int.reduceAdd, Int.reduceSub, Int.reduceMul, Try.f53, kr53, kp53_3, ow53_3, ty3, ty28, ty37, h8]
    simp [lows, highs]
  | cons n r ih =>
    intro q i x y h1 h2 h3 h4 h5 h6
    obtain ⟨g1, g2, g3⟩ := drop_cons h1
    obtain ⟨s, q, rfl⟩ : ∃ s q', q = s :: q' := by
      cases q with
      | nil => have := drop_nil h2; omega
      | cons s q => exact ⟨s, q, rfl⟩
    obtain ⟨g4, g5, g6⟩ := drop_cons h2
    have g9 := hE.1
    have g7 : (i : Int) < S.length := by omega
    have g8 : (i : Int) < E.length := by omega
    have hn := hE.2 n (List.mem_of_getElem? g2)
    have hs := hN s (List.mem_of_getElem? g5)
    obtain ⟨w1, w2⟩ := way_bd hs hn.1 hn.2
    obtain ⟨m1, m2⟩ := mn_bd (A := 9000000000000) w1 w2 (by omega)
    obtain ⟨m3, m4⟩ := mx_bd (A := 9000000000000) w1 w2 (by omega)
    simp only [List.length_cons, cast1] at h3 h4 h5 h6
    have ih' := ih q (i + 1) (x + mn (s * (n - 1)) 0) (y + mx (s * (n - 1)) 0) g3 g6 (by omega) (by omega) (by omega) (by omega)
    simp only [cast1] at ih'
    rw [lp_eq lp53_3]
    simp (config := { maxSteps := 1000000 }) (disch := omega) only [push_cast, ↓reduceIte, Nat.reduceEqDiff, Nat.reduceAdd, Nat.reduceLT, Nat.reduceLeDiff, Nat.reduceBEq, Nat.reduceMul, Nat.reduceSub, Int.reduceToNat, Int.reduceEq, Int.reduceLT, Int.reduceLE, Int.reduceNeg, Int.reduceAdd, Int.reduceSub, Int.reduceMul, Try.f53, kr53, kp53_3, ow53_3, ty3, ty28, ty37, g1, g4, g7, g8, getD_of g2, getD_of g5, ih']
    simp only [lows, highs, Int.add_assoc]
theorem c_ends (base : Int) (b1 b2 : Bool) (c1 c2 : Option Nat) (E S : List Int) (hE : exts E) (hS : S.length = E.length) (hN : ∀ s ∈ S, nearS s) (h0 : 0 ≤ base) (h1 : base ≤ 2147483648) :
    CALL 53 [Dsc base b1 c1 E b2 c2 S] = some (.tup [I (base + lows E S), I (base + highs E S)], []) := by
  have h3 := hE.1
  have hl := l_ends base b1 b2 c1 c2 E S hE hS hN E S 0 base base rfl rfl (by omega) (by omega) (by omega) (by omega)
  simp only [Int.natCast_zero] at hl
  refine lim_run (fn := Try.f53) fn53 rfl body53 (Nat.le_of_ble_eq_true rfl) ok53 ?_
  simp (config := { maxSteps := 1000000 }) (disch := omega) only [push_cast, ↓reduceIte, Nat.reduceEqDiff, Nat.reduceAdd, Nat.reduceLT, Nat.reduceLeDiff, Nat.reduceBEq, Nat.reduceMul, Nat.reduceSub, Int.reduceToNat, Int.reduceEq, Int.reduceLT, Int.reduceLE, Int.reduceNeg, Int.reduceAdd, Int.reduceSub, Int.reduceMul, Try.f53, kr53, kp53_3, ow53_3, ty3, ty28, ty37, hl]
theorem any_near (S : List Int) : (S.any fun n => decide (¬ nearS n)) = decide (¬ ∀ s ∈ S, nearS s) := by
  rw [Bool.eq_iff_iff, List.any_eq_true, decide_eq_true_eq]
  simp
theorem c_Valid (base : Int) (b1 b2 : Bool) (c1 c2 : Option Nat) (E S : List Int) (hE : (E.length : Int) ≤ 9223372036854775806) (hS : (S.length : Int) ≤ 9223372036854775806) :
    CALL 21 [Dsc base b1 c1 E b2 c2 S] = some (B (decide (okD base E S)), []) := by
  refine lim_run (fn := Try.f21) fn21 rfl body21 (Nat.le_of_ble_eq_true rfl) ok21 ?_
  have hc := c_ContainsFunc 52 [] _ c_Valid1 shut_nil
  have hz := size_bd E
  by_cases h1 : sizeQ E < 0
  · simp (config := { maxSteps := 1000000 }) (disch := omega) only [push_cast, ↓reduceIte, Nat.reduceEqDiff, Nat.reduceAdd, Nat.reduceLT, Nat.reduceLeDiff, Nat.reduceBEq, Nat.reduceMul, Nat.reduceSub, Int.reduceToNat, Int.reduceEq, Int.reduceLT, Int.reduceLE, Int.reduceNeg, Int.reduceAdd, Int.reduceSub, Int.reduceMul, Try.f21, kr21, ty3, ty4, ty28, ty37, tb4, c_size, h1]
    rw [decide_eq_false (fun h => size_none.1 h1 ⟨h.1, h.2.1⟩)]
  · have h1' : exts E ∧ pr E ≤ 4000 := Decidable.byContradiction fun hc => h1 (size_none.2 hc)
    by_cases h2 : (S.length : Int) = E.length
    · by_cases h3 : base < 0
      · simp (config := { maxSteps := 1000000 }) (disch := omega) only [push_cast, ↓reduceIte, Nat.reduceEqDiff, Nat.reduceAdd, Nat.reduceLT, Nat.reduceLeDiff, Nat.reduceBEq, Nat.reduceMul, Nat.reduceSub, Int.reduceToNat, Int.reduceEq, Int.reduceLT, Int.reduceLE, Int.reduceNeg, Int.reduceAdd, Int.reduceSub, Int.reduceMul, Try.f21, kr21, ty3, ty4, ty28, ty37, tb4, c_size, h1, h2, h3]
        rw [decide_eq_false (fun h => by have := h.2.2.2.1; omega)]
      · by_cases h4' : (S.any fun n => decide (¬ nearS n)) = true
        · have h4 : ¬ ∀ s ∈ S, nearS s := by rw [any_near] at h4'; exact of_decide_eq_true h4'
          simp (config := { maxSteps := 1000000 }) (disch := omega) only [push_cast, ↓reduceIte, Nat.reduceEqDiff, Nat.reduceAdd, Nat.reduceLT, Nat.reduceLeDiff, Nat.reduceBEq, Nat.reduceMul, Nat.reduceSub, Int.reduceToNat, Int.reduceEq, Int.reduceLT, Int.reduceLE, Int.reduceNeg, Int.reduceAdd, Int.reduceSub, Int.reduceMul, Try.f21, kr21, ty3, ty4, ty28, ty37, tb4, c_size, h1, h2, h3, hc, h4']
          rw [decide_eq_false (fun h => h4 h.2.2.2.2.1)]
        · have h4 : ∀ s ∈ S, nearS s := by
            rw [any_near] at h4'; exact Decidable.not_not.1 fun h => h4' (decide_eq_true h)
          have hs := size_some h1'
          have he := c_ends base b1 b2 c1 c2 E S h1'.1 (by omega) h4 (by omega)
          by_cases h5 : 2147483648 < base
          · simp (config := { maxSteps := 1000000 }) (disch := omega) only [push_cast, ↓reduceIte, Nat.reduceEqDiff, Nat.reduceAdd, Nat.reduceLT, Nat.reduceLeDiff, Nat.reduceBEq, Nat.reduceMul, Nat.reduceSub, Int.reduceToNat, Int.reduceEq, Int.reduceLT, Int.reduceLE, Int.reduceNeg, Int.reduceAdd, Int.reduceSub, Int.reduceMul, Try.f21, kr21, ty3, ty4, ty28, ty37, tb4, c_size, h1, h2, h3, hc, h4', h5]
            by_cases h6 : sizeQ E = 0
            · rw [if_pos h6, decide_eq_true (p := okD base E S) ⟨h1'.1, h1'.2, by omega, by omega, h4, .inl (by omega)⟩]
            · rw [if_neg h6, decide_eq_false (p := okD base E S) (fun h => by rcases h.2.2.2.2.2 with h | h <;> omega)]
          · simp (config := { maxSteps := 1000000 }) (disch := omega) only [push_cast, ↓reduceIte, Nat.reduceEqDiff, Nat.reduceAdd, Nat.reduceLT, Nat.reduceLeDiff, Nat.reduceBEq, Nat.reduceMul, Nat.reduceSub, Int.reduceToNat, Int.reduceEq, Int.reduceLT, Int.reduceLE, Int.reduceNeg, Int.reduceAdd, Int.reduceSub, Int.reduceMul, Try.f21, kr21, ty3, ty4, ty28, ty37, tb4, c_size, h1, h2, h3, hc, h4', h5, he (by omega)]
            by_cases h6 : sizeQ E = 0
            · rw [if_pos h6, decide_eq_true (p := okD base E S) ⟨h1'.1, h1'.2, by omega, by omega, h4, .inl (by omega)⟩]
            · have key : okD base E S ↔ (0 ≤ base + lows E S ∧ base + highs E S ≤ 2147483648) :=
                ⟨fun h => by rcases h.2.2.2.2.2 with h | h; omega; exact h.2, fun h => ⟨h1'.1, h1'.2, by omega, by omega, h4, .inr ⟨by omega, h⟩⟩⟩
              rw [if_neg h6, show decide (okD base E S) = decide (0 ≤ base + lows E S ∧ base + highs E S ≤ 2147483648) from decide_eq_decide.2 key]
              by_cases h7 : 0 ≤ base + lows E S <;> simp [h7]
    · simp (config := { maxSteps := 1000000 }) (disch := omega) only [push_cast, ↓reduceIte, Nat.reduceEqDiff, Nat.reduceAdd, Nat.reduceLT, Nat.reduceLeDiff, Nat.reduceBEq, Nat.reduceMul, Nat.reduceSub, Int.reduceToNat, Int.reduceEq, Int.reduceLT, Int.reduceLE, Int.reduceNeg, Int.reduceAdd, Int.reduceSub, Int.reduceMul, Try.f21, kr21, ty3, ty4, ty28, ty37, tb4, c_size, h1, h2]
      rw [decide_eq_false (fun h => by have := h.2.2.1; omega)]
end Go.Proofs.Ytnbijiopcgfmfaa.Tev
