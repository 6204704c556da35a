/- Part 11: CSlc, CSec, CSec2, CSec3, CWh, QStrip, CCnt, QCut, QCut2, QCut3, QCut4, CAr0. -/
import Derived.Test.YtnbijiopcgfmfaaGreatP08
import Derived.Test.YtnbijiopcgfmfaaGreatP10
import Derived.Test.YtnbijiopcgfmfaaGreatP07
/- slices.IndexFunc, ContainsFunc. -/
namespace Go.Proofs.YtnbijiopcgfmfaaGreat.Tev
open Go Go.RowKit Go.Proofs Go.Proofs.YtnbijiopcgfmfaaGreat.Q
set_option linter.unusedSectionVars false
set_option maxRecDepth 100000
set_option maxHeartbeats 0
set_option linter.unusedSimpArgs false
set_option linter.unusedVariables false
theorem l_IndexFunc (g : FuncId) (caps : List T) (p : Int → Bool) (hg : ∀ x, CALL g (I x :: caps) = some (B (p x), [])) (hc : Shut caps) (b : Bool) (cap : Option Nat) (xs : List Int) (hx : (xs.length : Int) ≤ 9223372036854775806) :
    ∀ (r : List Int) (i : Nat), xs.drop i = r → lp E0 pr0 30 2 ⟨[(0, SL b cap xs.length (ints xs)), (1, .fn g caps), (7, I xs.length), (8, I i)], [], 0⟩ =
      if r.any p = true then some (.ret, ⟨[(4, I (i + r.findIdx p))], [], 0⟩) else some (.exit 0, ⟨[], [], 0⟩) := by
  intro r
  induction r with
  | nil =>
    intro i hi
    have h1 := drop_nil hi
    have h2 : ¬ (i : Int) < xs.length := by omega
    rw [lp_eq lp30_2]
    simp (config := { maxSteps := 1000000 }) (disch := omega) only [push_cast, ↓reduceIte, Nat.reduceEqDiff, Nat.reduceAdd, Nat.reduceLT, Nat.reduceLeDiff, Nat.reduceBEq, Nat.reduceMul, Nat.reduceSub, Int.reduceToNat, Int.reduceEq, Int.reduceLT, Int.reduceLE, Int.reduceNeg, Int.reduceAdd, Int.reduceSub, Int.reduceMul, Tryz.f30, kr30, kp30_2, ow30_2, ty3, ty22, h2]
    simp
  | cons x r ih =>
    intro i hi
    obtain ⟨h1, h2, h3⟩ := drop_cons hi
    have h4 : (i : Int) < xs.length := by omega
    have ih' := ih (i + 1) h3
    simp only [cast1] at ih'
    rw [lp_eq lp30_2]
    simp (config := { maxSteps := 1000000 }) (disch := omega) only [push_cast, ↓reduceIte, Nat.reduceEqDiff, Nat.reduceAdd, Nat.reduceLT, Nat.reduceLeDiff, Nat.reduceBEq, Nat.reduceMul, Nat.reduceSub, Int.reduceToNat, Int.reduceEq, Int.reduceLT, Int.reduceLE, Int.reduceNeg, Int.reduceAdd, Int.reduceSub, Int.reduceMul, Tryz.f30, kr30, kp30_2, ow30_2, ty3, ty22, shut_snap _ hc, shut_foc _ _ _ hc, map_nrm, hg, h1, h4, getD_of h2, ih']
    rw [List.any_cons, List.findIdx_cons]
    cases p x with
    | true => simp
    | false =>
      simp only [Bool.false_eq_true, if_false, Bool.false_or, cond_false, cast1]
      split <;> simp <;> omega
theorem c_IndexFunc (g : FuncId) (caps : List T) (p : Int → Bool) (hg : ∀ x, CALL g (I x :: caps) = some (B (p x), [])) (hc : Shut caps) (b : Bool) (cap : Option Nat) (xs : List Int) (hx : (xs.length : Int) ≤ 9223372036854775806) :
    CALL 30 [SL b cap xs.length (ints xs), .fn g caps] = some (I (if xs.any p then (xs.findIdx p : Int) else -1), []) := by
  have h := l_IndexFunc g caps p hg hc b cap xs hx xs 0 rfl
  simp only [Int.natCast_zero, Int.zero_add] at h
  refine lim_run (fn := Tryz.f30) fn30 rfl body30 (Nat.le_of_ble_eq_true rfl) ok30 ?_
  simp (config := { maxSteps := 1000000 }) (disch := omega) only [push_cast, ↓reduceIte, Nat.reduceEqDiff, Nat.reduceAdd, Nat.reduceLT, Nat.reduceLeDiff, Nat.reduceBEq, Nat.reduceMul, Nat.reduceSub, Int.reduceToNat, Int.reduceEq, Int.reduceLT, Int.reduceLE, Int.reduceNeg, Int.reduceAdd, Int.reduceSub, Int.reduceMul, Tryz.f30, kr30, kp30_2, ow30_2, ty3, ty22, shut_snap _ hc, shut_foc _ _ _ hc, map_nrm, hg, h]
  split <;> rfl
theorem c_ContainsFunc (g : FuncId) (caps : List T) (p : Int → Bool) (hg : ∀ x, CALL g (I x :: caps) = some (B (p x), [])) (hc : Shut caps) (b : Bool) (cap : Option Nat) (xs : List Int) (hx : (xs.length : Int) ≤ 9223372036854775806) :
    CALL 14 [SL b cap xs.length (ints xs), .fn g caps] = some (B (xs.any p), []) := by
  have h := c_IndexFunc g caps p hg hc b cap xs hx
  refine lim_run (fn := Tryz.f14) fn14 rfl body14 (Nat.le_of_ble_eq_true rfl) ok14 ?_
  simp (config := { maxSteps := 1000000 }) (disch := omega) only [push_cast, ↓reduceIte, Nat.reduceEqDiff, Nat.reduceAdd, Nat.reduceLT, Nat.reduceLeDiff, Nat.reduceBEq, Nat.reduceMul, Nat.reduceSub, Int.reduceToNat, Int.reduceEq, Int.reduceLT, Int.reduceLE, Int.reduceNeg, Int.reduceAdd, Int.reduceSub, Int.reduceMul, Tryz.f14, kr14, ty4, tb4, shut_snap _ hc, shut_foc _ _ _ hc, map_nrm, h]
  by_cases h : xs.any p = true <;> simp [h]
end Go.Proofs.YtnbijiopcgfmfaaGreat.Tev
/- What the sections' small functions return. -/
namespace Go.Proofs.YtnbijiopcgfmfaaGreat.Tev
open Go Go.RowKit Go.Proofs Go.Proofs.YtnbijiopcgfmfaaGreat.Q
set_option linter.unusedSectionVars false
set_option maxRecDepth 100000
set_option maxHeartbeats 0
set_option linter.unusedSimpArgs false
set_option linter.unusedVariables false
theorem c_size1 (n : Int) : CALL 52 [I n] = some (B (decide (n < 0 ∨ 4000 < n)), []) := by
  refine lim_run (fn := Tryz.f52) fn52 rfl body52 (Nat.le_of_ble_eq_true rfl) ok52 ?_
  simp (config := { maxSteps := 1000000 }) (disch := omega) only [push_cast, ↓reduceIte, Nat.reduceEqDiff, Nat.reduceAdd, Nat.reduceLT, Nat.reduceLeDiff, Nat.reduceBEq, Nat.reduceMul, Nat.reduceSub, Int.reduceToNat, Int.reduceEq, Int.reduceLT, Int.reduceLE, Int.reduceNeg, Int.reduceAdd, Int.reduceSub, Int.reduceMul, Tryz.f52, kr52, ty4, tb4]
  by_cases h : n < 0 <;> simp [h]
theorem l_size (b : Bool) (cap : Option Nat) (E : List Int) (h3 : E.length ≤ 3) (hE : ∀ e ∈ E, 0 ≤ e ∧ e ≤ 4000) :
    ∀ (r : List Int) (i : Nat) (a : Int), E.drop i = r → 0 ≤ a → a ≤ B4 i → lp E0 pr0 28 5 ⟨[(3, I a), (13, SL b cap E.length (ints E)), (14, I E.length), (15, I i)], [], 0⟩ = some (.exit 0, ⟨[(3, I (a * pr r))], [], 0⟩) := by
  intro r
  induction r with
  | nil =>
    intro i a hi h0 h1
    have h2 := drop_nil hi
    have h2 : ¬ (i : Int) < E.length := by omega
    rw [lp_eq lp28_5]
    simp (config := { maxSteps := 1000000 }) (disch := omega) only [push_cast, ↓reduceIte, Nat.reduceEqDiff, Nat.reduceAdd, Nat.reduceLT, Nat.reduceLeDiff, Nat.reduceBEq, Nat.reduceMul, Nat.reduceSub, Int.reduceToNat, Int.reduceEq, Int.reduceLT, Int.reduceLE, Int.reduceNeg, Int.reduceAdd, Int.reduceSub, Int.reduceMul, Tryz.f28, kr28, kp28_5, ow28_5, ty3, ty22, h2]
    simp [pr]
  | cons x r ih =>
    intro i a hi h0 h1
    obtain ⟨h2, h4, h5⟩ := drop_cons hi
    have h6 : (i : Int) < E.length := by omega
    obtain ⟨e0, e1⟩ := hE x (List.mem_of_getElem? h4)
    obtain ⟨b0, b1⟩ := B4_step (n := i) (by omega) h0 h1 e0 e1
    have b2 := B4_le (i + 1)
    have ih' := ih (i + 1) (a * x) h5 b0 b1
    simp only [cast1] at ih'
    rw [lp_eq lp28_5]
    simp (config := { maxSteps := 1000000 }) (disch := omega) only [push_cast, ↓reduceIte, Nat.reduceEqDiff, Nat.reduceAdd, Nat.reduceLT, Nat.reduceLeDiff, Nat.reduceBEq, Nat.reduceMul, Nat.reduceSub, Int.reduceToNat, Int.reduceEq, Int.reduceLT, Int.reduceLE, Int.reduceNeg, Int.reduceAdd, Int.reduceSub, Int.reduceMul, Tryz.f28, kr28, kp28_5, ow28_5, ty3, ty22, h2, h6, getD_of h4, ih']
    rw [pr, Int.mul_assoc]
theorem c_size (b : Bool) (cap : Option Nat) (E : List Int) (hx : (E.length : Int) ≤ 9223372036854775806) : CALL 28 [SL b cap E.length (ints E)] = some (I (sizeQ E), []) := by
  refine lim_run (fn := Tryz.f28) fn28 rfl body28 (Nat.le_of_ble_eq_true rfl) ok28 ?_
  have hc := c_ContainsFunc 52 [] _ c_size1 shut_nil
  unfold sizeQ exts
  by_cases h3 : 3 < (E.length : Int)
  · simp (config := { maxSteps := 1000000 }) (disch := omega) only [push_cast, ↓reduceIte, Nat.reduceEqDiff, Nat.reduceAdd, Nat.reduceLT, Nat.reduceLeDiff, Nat.reduceBEq, Nat.reduceMul, Nat.reduceSub, Int.reduceToNat, Int.reduceEq, Int.reduceLT, Int.reduceLE, Int.reduceNeg, Int.reduceAdd, Int.reduceSub, Int.reduceMul, Tryz.f28, kr28, kp28_5, ow28_5, ty3, ty22, hc, h3]
    rw [if_neg (by omega)]
  · by_cases hE : (E.any fun n => decide (n < 0 ∨ 4000 < n)) = true
    · simp (config := { maxSteps := 1000000 }) (disch := omega) only [push_cast, ↓reduceIte, Nat.reduceEqDiff, Nat.reduceAdd, Nat.reduceLT, Nat.reduceLeDiff, Nat.reduceBEq, Nat.reduceMul, Nat.reduceSub, Int.reduceToNat, Int.reduceEq, Int.reduceLT, Int.reduceLE, Int.reduceNeg, Int.reduceAdd, Int.reduceSub, Int.reduceMul, Tryz.f28, kr28, kp28_5, ow28_5, ty3, ty22, hc, h3, hE]
      rw [if_neg]
      rintro ⟨⟨_, h⟩, _⟩
      obtain ⟨e, he, he2⟩ := List.any_eq_true.1 hE
      have := h e he
      simp at he2
      omega
    · have hE' : ∀ e ∈ E, 0 ≤ e ∧ e ≤ 4000 := fun e he => by
        refine Decidable.byContradiction fun hc => hE (List.any_eq_true.2 ⟨e, he, ?_⟩)
        simp; omega
      have hl := l_size b cap E (by omega) hE' E 0 1 rfl (by omega) (by simp [B4])
      simp only [Int.natCast_zero, Int.one_mul] at hl
      simp (config := { maxSteps := 1000000 }) (disch := omega) only [push_cast, ↓reduceIte, Nat.reduceEqDiff, Nat.reduceAdd, Nat.reduceLT, Nat.reduceLeDiff, Nat.reduceBEq, Nat.reduceMul, Nat.reduceSub, Int.reduceToNat, Int.reduceEq, Int.reduceLT, Int.reduceLE, Int.reduceNeg, Int.reduceAdd, Int.reduceSub, Int.reduceMul, Tryz.f28, kr28, kp28_5, ow28_5, ty3, ty22, hc, h3, hE, hl]
      by_cases hp : 4000 < pr E
      · rw [if_pos hp, if_neg (by omega)]
      · rw [if_neg hp, if_pos ⟨⟨by omega, hE'⟩, by omega⟩]
theorem c_Valid1 (n : Int) : CALL 49 [I n] = some (B (decide (¬ nearS n)), []) := by
  refine lim_run (fn := Tryz.f49) fn49 rfl body49 (Nat.le_of_ble_eq_true rfl) ok49 ?_
  simp (config := { maxSteps := 1000000 }) (disch := omega) only [push_cast, ↓reduceIte, Nat.reduceEqDiff, Nat.reduceAdd, Nat.reduceLT, Nat.reduceLeDiff, Nat.reduceBEq, Nat.reduceMul, Nat.reduceSub, Int.reduceToNat, Int.reduceEq, Int.reduceLT, Int.reduceLE, Int.reduceNeg, Int.reduceAdd, Int.reduceSub, Int.reduceMul, Tryz.f49, kr49, ty4, tb4, c_isNumber]
/-- A descriptor as an argument. -/
abbrev Dsc (b : Int) (b1 : Bool) (c1 : Option Nat) (E : List Int) (b2 : Bool) (c2 : Option Nat) (S : List Int) : T := .agg [I b, SL b1 c1 E.length (ints E), SL b2 c2 S.length (ints S)]
theorem l_ends (base : Int) (b1 b2 : Bool) (c1 c2 : Option Nat) (E S : List Int) (hE : exts E) (hS : S.length = E.length) (hN : ∀ s ∈ S, nearS s) :
    ∀ (r q : List Int) (i : Nat) (x y : Int), E.drop i = r → S.drop i = q → -100000000000000 + 10000000000000 * (r.length : Int) ≤ x → x ≤ 100000000000000 - 10000000000000 * (r.length : Int) → -100000000000000 + 10000000000000 * (r.length : Int) ≤ y → y ≤ 100000000000000 - 10000000000000 * (r.length : Int) →
      lp E0 pr0 51 3 ⟨[(1, .pt 0 0), (2, I x), (3, I y), (12, SL b2 c2 S.length (ints S)), (13, I S.length), (14, I i)], [(0, .box [I base, SL b1 c1 E.length (ints E), SL b2 c2 S.length (ints S)])], 1⟩ =
        some (.exit 0, ⟨[(2, I (x + lows r q)), (3, I (y + highs r q))], [], 0⟩) := by
  intro r
  induction r with
  | nil =>
    intro q i x y h1 h2 h3 h4 h5 h6
    have h7 := drop_nil h1
    have h8 : ¬ (i : Int) < S.length := by omega
    rw [lp_eq lp51_3]
    simp (config := { maxSteps := 1000000 }) (disch := omega) only [push_cast, ↓reduceIte, Nat.reduceEqDiff, Nat.reduceAdd, Nat.reduceLT, Nat.reduceLeDiff, Nat.reduceBEq, Nat.reduceMul, Nat.reduceSub, Int.reduceToNat, Int.reduceEq, Int.reduceLT, Int.reduceLE, Int.reduceNeg, Int.reduceAdd, Int.reduceSub, Int.reduceMul, Tryz.f51, kr51, kp51_3, ow51_3, ty3, ty22, ty31, h8]
    simp [lows, highs]
  | cons n r ih =>
    intro q i x y h1 h2 h3 h4 h5 h6
    obtain ⟨g1, g2, g3⟩ := drop_cons h1
    obtain ⟨s, q, rfl⟩ : ∃ s q', q = s :: q' := by
      cases q with
      | nil => have := drop_nil h2; omega
      | cons s q => exact ⟨s, q, rfl⟩
    obtain ⟨g4, g5, g6⟩ := drop_cons h2
    have g9 := hE.1
    have g7 : (i : Int) < S.length := by omega
    have g8 : (i : Int) < E.length := by omega
    have hn := hE.2 n (List.mem_of_getElem? g2)
    have hs := hN s (List.mem_of_getElem? g5)
    obtain ⟨w1, w2⟩ := way_bd hs hn.1 hn.2
    obtain ⟨m1, m2⟩ := mn_bd (A := 9000000000000) w1 w2 (by omega)
    obtain ⟨m3, m4⟩ := mx_bd (A := 9000000000000) w1 w2 (by omega)
    simp only [List.length_cons, cast1] at h3 h4 h5 h6
    have ih' := ih q (i + 1) (x + mn (s * (n - 1)) 0) (y + mx (s * (n - 1)) 0) g3 g6 (by omega) (by omega) (by omega) (by omega)
    simp only [cast1] at ih'
    rw [lp_eq lp51_3]
    simp (config := { maxSteps := 1000000 }) (disch := omega) only [push_cast, ↓reduceIte, Nat.reduceEqDiff, Nat.reduceAdd, Nat.reduceLT, Nat.reduceLeDiff, Nat.reduceBEq, Nat.reduceMul, Nat.reduceSub, Int.reduceToNat, Int.reduceEq, Int.reduceLT, Int.reduceLE, Int.reduceNeg, Int.reduceAdd, Int.reduceSub, Int.reduceMul, Tryz.f51, kr51, kp51_3, ow51_3, ty3, ty22, ty31, g1, g4, g7, g8, getD_of g2, getD_of g5, ih']
    simp only [lows, highs, Int.add_assoc]
theorem c_ends (base : Int) (b1 b2 : Bool) (c1 c2 : Option Nat) (E S : List Int) (hE : exts E) (hS : S.length = E.length) (hN : ∀ s ∈ S, nearS s) (h0 : 0 ≤ base) (h1 : base ≤ 2147483648) :
    CALL 51 [Dsc base b1 c1 E b2 c2 S] = some (.tup [I (base + lows E S), I (base + highs E S)], []) := by
  have h3 := hE.1
  have hl := l_ends base b1 b2 c1 c2 E S hE hS hN E S 0 base base rfl rfl (by omega) (by omega) (by omega) (by omega)
  simp only [Int.natCast_zero] at hl
  refine lim_run (fn := Tryz.f51) fn51 rfl body51 (Nat.le_of_ble_eq_true rfl) ok51 ?_
  simp (config := { maxSteps := 1000000 }) (disch := omega) only [push_cast, ↓reduceIte, Nat.reduceEqDiff, Nat.reduceAdd, Nat.reduceLT, Nat.reduceLeDiff, Nat.reduceBEq, Nat.reduceMul, Nat.reduceSub, Int.reduceToNat, Int.reduceEq, Int.reduceLT, Int.reduceLE, Int.reduceNeg, Int.reduceAdd, Int.reduceSub, Int.reduceMul, Tryz.f51, kr51, kp51_3, ow51_3, ty3, ty22, ty31, hl]
theorem any_near (S : List Int) : (S.any fun n => decide (¬ nearS n)) = decide (¬ ∀ s ∈ S, nearS s) := by
  rw [Bool.eq_iff_iff, List.any_eq_true, decide_eq_true_eq]
  simp
theorem c_Valid (base : Int) (b1 b2 : Bool) (c1 c2 : Option Nat) (E S : List Int) (hE : (E.length : Int) ≤ 9223372036854775806) (hS : (S.length : Int) ≤ 9223372036854775806) :
    CALL 26 [Dsc base b1 c1 E b2 c2 S] = some (B (decide (okD base E S)), []) := by
  refine lim_run (fn := Tryz.f26) fn26 rfl body26 (Nat.le_of_ble_eq_true rfl) ok26 ?_
  have hc := c_ContainsFunc 49 [] _ c_Valid1 shut_nil
  have hz := size_bd E
  by_cases h1 : sizeQ E < 0
  · simp (config := { maxSteps := 1000000 }) (disch := omega) only [push_cast, ↓reduceIte, Nat.reduceEqDiff, Nat.reduceAdd, Nat.reduceLT, Nat.reduceLeDiff, Nat.reduceBEq, Nat.reduceMul, Nat.reduceSub, Int.reduceToNat, Int.reduceEq, Int.reduceLT, Int.reduceLE, Int.reduceNeg, Int.reduceAdd, Int.reduceSub, Int.reduceMul, Tryz.f26, kr26, ty3, ty4, ty22, ty31, tb4, c_size, h1]
    rw [decide_eq_false (fun h => size_none.1 h1 ⟨h.1, h.2.1⟩)]
  · have h1' : exts E ∧ pr E ≤ 4000 := Decidable.byContradiction fun hc => h1 (size_none.2 hc)
    by_cases h2 : (S.length : Int) = E.length
    · by_cases h3 : base < 0
      · simp (config := { maxSteps := 1000000 }) (disch := omega) only [push_cast, ↓reduceIte, Nat.reduceEqDiff, Nat.reduceAdd, Nat.reduceLT, Nat.reduceLeDiff, Nat.reduceBEq, Nat.reduceMul, Nat.reduceSub, Int.reduceToNat, Int.reduceEq, Int.reduceLT, Int.reduceLE, Int.reduceNeg, Int.reduceAdd, Int.reduceSub, Int.reduceMul, Tryz.f26, kr26, ty3, ty4, ty22, ty31, tb4, c_size, h1, h2, h3]
        rw [decide_eq_false (fun h => by have := h.2.2.2.1; omega)]
      · by_cases h4' : (S.any fun n => decide (¬ nearS n)) = true
        · have h4 : ¬ ∀ s ∈ S, nearS s := by rw [any_near] at h4'; exact of_decide_eq_true h4'
          simp (config := { maxSteps := 1000000 }) (disch := omega) only [push_cast, ↓reduceIte, Nat.reduceEqDiff, Nat.reduceAdd, Nat.reduceLT, Nat.reduceLeDiff, Nat.reduceBEq, Nat.reduceMul, Nat.reduceSub, Int.reduceToNat, Int.reduceEq, Int.reduceLT, Int.reduceLE, Int.reduceNeg, Int.reduceAdd, Int.reduceSub, Int.reduceMul, Tryz.f26, kr26, ty3, ty4, ty22, ty31, tb4, c_size, h1, h2, h3, hc, h4']
          rw [decide_eq_false (fun h => h4 h.2.2.2.2.1)]
        · have h4 : ∀ s ∈ S, nearS s := by
            rw [any_near] at h4'; exact Decidable.not_not.1 fun h => h4' (decide_eq_true h)
          have hs := size_some h1'
          have he := c_ends base b1 b2 c1 c2 E S h1'.1 (by omega) h4 (by omega)
          by_cases h5 : 2147483648 < base
          · simp (config := { maxSteps := 1000000 }) (disch := omega) only [push_cast, ↓reduceIte, Nat.reduceEqDiff, Nat.reduceAdd, Nat.reduceLT, Nat.reduceLeDiff, Nat.reduceBEq, Nat.reduceMul, Nat.reduceSub, Int.reduceToNat, Int.reduceEq, Int.reduceLT, Int.reduceLE, Int.reduceNeg, Int.reduceAdd, Int.reduceSub, Int.reduceMul, Tryz.f26, kr26, ty3, ty4, ty22, ty31, tb4, c_size, h1, h2, h3, hc, h4', h5]
            by_cases h6 : sizeQ E = 0
            · rw [if_pos h6, decide_eq_true (p := okD base E S) ⟨h1'.1, h1'.2, by omega, by omega, h4, .inl (by omega)⟩]
            · rw [if_neg h6, decide_eq_false (p := okD base E S) (fun h => by rcases h.2.2.2.2.2 with h | h <;> omega)]
          · simp (config := { maxSteps := 1000000 }) (disch := omega) only [push_cast, ↓reduceIte, Nat.reduceEqDiff, Nat.reduceAdd, Nat.reduceLT, Nat.reduceLeDiff, Nat.reduceBEq, Nat.reduceMul, Nat.reduceSub, Int.reduceToNat, Int.reduceEq, Int.reduceLT, Int.reduceLE, Int.reduceNeg, Int.reduceAdd, Int.reduceSub, Int.reduceMul, Tryz.f26, kr26, ty3, ty4, ty22, ty31, tb4, c_size, h1, h2, h3, hc, h4', h5, he (by omega)]
            by_cases h6 : sizeQ E = 0
            · rw [if_pos h6, decide_eq_true (p := okD base E S) ⟨h1'.1, h1'.2, by omega, by omega, h4, .inl (by omega)⟩]
            · have key : okD base E S ↔ (0 ≤ base + lows E S ∧ base + highs E S ≤ 2147483648) :=
                ⟨fun h => by rcases h.2.2.2.2.2 with h | h; omega; exact h.2, fun h => ⟨h1'.1, h1'.2, by omega, by omega, h4, .inr ⟨by omega, h⟩⟩⟩
              rw [if_neg h6, show decide (okD base E S) = decide (0 ≤ base + lows E S ∧ base + highs E S ≤ 2147483648) from decide_eq_decide.2 key]
              by_cases h7 : 0 ≤ base + lows E S <;> simp [h7]
    · simp (config := { maxSteps := 1000000 }) (disch := omega) only [push_cast, ↓reduceIte, Nat.reduceEqDiff, Nat.reduceAdd, Nat.reduceLT, Nat.reduceLeDiff, Nat.reduceBEq, Nat.reduceMul, Nat.reduceSub, Int.reduceToNat, Int.reduceEq, Int.reduceLT, Int.reduceLE, Int.reduceNeg, Int.reduceAdd, Int.reduceSub, Int.reduceMul, Tryz.f26, kr26, ty3, ty4, ty22, ty31, tb4, c_size, h1, h2]
      rw [decide_eq_false (fun h => by have := h.2.2.1; omega)]
end Go.Proofs.YtnbijiopcgfmfaaGreat.Tev
/- Where a section's elements lie: section.Places. -/
namespace Go.Proofs.YtnbijiopcgfmfaaGreat.Tev
open Go Go.RowKit Go.Proofs Go.Proofs.YtnbijiopcgfmfaaGreat.Q
set_option linter.unusedSectionVars false
set_option maxRecDepth 100000
set_option maxHeartbeats 0
set_option linter.unusedSimpArgs false
set_option linter.unusedVariables false
section
variable (base : Int) (b1 b2 : Bool) (c1 c2 : Option Nat) (E S : List Int)
theorem l_Places14 (n k s : Int) (i : Nat) (hi : S[i]? = some s) (row : List Int) (hr : row.length ≤ 4000) : ∀ (r : List Int) (j : Nat) (out : List Int) (cp cq : Option Nat) (gr : Nat), row.drop j = r → out.length + r.length ≤ 4000 → gr ≤ 1 →
    ∃ cp' gr', gr' ≤ 1 ∧ lp E0 pr0 11 14 ⟨[(1, .pt 0 0), (4, .sl 1 0 out.length 1 cp), (5, I i), (6, I n), (7, .sl 2 0 row.length 1 cq), (8, I k), (22, SL b1 c1 E.length (ints E)), (23, I E.length), (24, I i), (35, .sl 2 0 row.length 1 cq), (36, I row.length), (37, I j)],
        [(0, .box [I base, SL b1 c1 E.length (ints E), SL b2 c2 S.length (ints S)]), (1, .arr (ints out) 1 1), (2, .arr (ints row) 1 gr)], 3⟩ =
      some (.exit 4, ⟨[(1, .pt 0 0), (4, .sl 1 0 (out ++ rowW r s k).length 1 cp'), (5, I i), (6, I n), (7, .sl 2 0 row.length 1 cq), (8, I k), (22, SL b1 c1 E.length (ints E)), (23, I E.length), (24, I i)],
        [(0, .box [I base, SL b1 c1 E.length (ints E), SL b2 c2 S.length (ints S)]), (1, .arr (ints (out ++ rowW r s k)) 1 1), (2, .arr (ints row) 1 gr')], 3⟩) := by
  intro r
  induction r with
  | nil =>
    intro j out cp cq gr h1 h2 h3
    have h4 := drop_nil h1
    have h5 : ¬ (j : Int) < row.length := by omega
    refine ⟨cp, gr, h3, ?_⟩
    have h6 : gr = 0 ∨ gr = 1 := by omega
    rcases h6 with rfl | rfl <;> clear h3
    all_goals rw [lp_eq lp11_14]
    all_goals simp (config := { maxSteps := 1000000 }) (disch := omega) only [push_cast, ↓reduceIte, Nat.reduceEqDiff, Nat.reduceAdd, Nat.reduceLT, Nat.reduceLeDiff, Nat.reduceBEq, Nat.reduceMul, Nat.reduceSub, Int.reduceToNat, Int.reduceEq, Int.reduceLT, Int.reduceLE, Int.reduceNeg, Int.reduceAdd, Int.reduceSub, Int.reduceMul, Tryz.f11, kr11, kp11_14, kp11_11, kp11_7, ow11_14, ow11_11, ow11_7, ty3, ty22, ty31, ty34, h5, rowW, List.map_nil, List.append_nil]
  | cons x r ih =>
    intro j out cp cq gr h1 h2 h3
    obtain ⟨h4, h5, h6⟩ := drop_cons h1
    have h7 : (j : Int) < row.length := by omega
    have h8 : i < S.length := by rcases Nat.lt_or_ge i S.length with h' | h'; exact h'; simp [h'] at hi
    have h9 : (i : Int) < S.length := by omega
    simp only [List.length_cons] at h2
    have e : out ++ [IntKind.i64.wrap (x + IntKind.i64.wrap (k * s))] ++ rowW r s k = out ++ rowW (x :: r) s k := by simp [rowW]
    obtain ⟨cp', gr', hg, ih'⟩ := ih (j + 1) (out ++ [IntKind.i64.wrap (x + IntKind.i64.wrap (k * s))]) none cq 0 h6 (by simp; omega) (by omega)
    rw [e] at ih'
    simp only [cast1, List.length_append, List.length_cons, List.length_nil, Nat.zero_add, Nat.add_zero, Int.natCast_zero, Int.natCast_add, Int.zero_add, ints_1, ints_0, ] at ih'
    refine ⟨cp', gr', hg, ?_⟩
    have h6 : gr = 0 ∨ gr = 1 := by omega
    rcases h6 with rfl | rfl <;> clear h3
    all_goals rw [lp_eq lp11_14]
    all_goals simp (config := { maxSteps := 1000000 }) (disch := omega) only [push_cast, ↓reduceIte, Nat.reduceEqDiff, Nat.reduceAdd, Nat.reduceLT, Nat.reduceLeDiff, Nat.reduceBEq, Nat.reduceMul, Nat.reduceSub, Int.reduceToNat, Int.reduceEq, Int.reduceLT, Int.reduceLE, Int.reduceNeg, Int.reduceAdd, Int.reduceSub, Int.reduceMul, Tryz.f11, kr11, kp11_14, kp11_11, kp11_7, ow11_14, ow11_11, ow11_7, ty3, ty22, ty31, ty34, h4, h7, h8, h9, getD_of h5, getD_of hi, ih']
theorem dimW_all (out : List Int) (s : Int) (n : Nat) (hn : 1 ≤ n) (h : ∀ x ∈ out, -9223372036854775808 ≤ x ∧ x ≤ 9223372036854775807) : out ++ dimW out s (n - 1) 1 = dimW out s n 0 := by
  obtain ⟨m, rfl⟩ : ∃ m, n = m + 1 := ⟨n - 1, by omega⟩
  rw [dimW_succ, rowW_zero s h]; rfl
theorem l_Places11 (n s : Int) (hn : n ≤ 4000) (i : Nat) (hi : S[i]? = some s) (row : List Int) (hr : row.length ≤ 4000) : ∀ (d : Nat) (k : Nat) (out : List Int) (cp cq : Option Nat) (gr : Nat), (k : Int) + d = n → out.length + d * row.length ≤ 4000 → gr ≤ 1 →
    ∃ cp', lp E0 pr0 11 11 ⟨[(1, .pt 0 0), (4, .sl 1 0 out.length 1 cp), (5, I i), (6, I n), (7, .sl 2 0 row.length 1 cq), (8, I k), (22, SL b1 c1 E.length (ints E)), (23, I E.length), (24, I i)],
        [(0, .box [I base, SL b1 c1 E.length (ints E), SL b2 c2 S.length (ints S)]), (1, .arr (ints out) 1 1), (2, .arr (ints row) 1 gr)], 3⟩ =
      some (.exit 2, ⟨[(1, .pt 0 0), (4, .sl 1 0 (out ++ dimW row s d k).length 1 cp'), (22, SL b1 c1 E.length (ints E)), (23, I E.length), (24, I i)],
        [(0, .box [I base, SL b1 c1 E.length (ints E), SL b2 c2 S.length (ints S)]), (1, .arr (ints (out ++ dimW row s d k)) 1 1)], 2⟩) := by
  intro d
  induction d with
  | zero =>
    intro k out cp cq gr h1 h2 h3
    have h5 : ¬ (k : Int) < n := by omega
    refine ⟨cp, ?_⟩
    have h6 : gr = 0 ∨ gr = 1 := by omega
    rcases h6 with rfl | rfl <;> clear h3
    all_goals rw [lp_eq lp11_11]
    all_goals simp (config := { maxSteps := 1000000 }) (disch := omega) only [push_cast, ↓reduceIte, Nat.reduceEqDiff, Nat.reduceAdd, Nat.reduceLT, Nat.reduceLeDiff, Nat.reduceBEq, Nat.reduceMul, Nat.reduceSub, Int.reduceToNat, Int.reduceEq, Int.reduceLT, Int.reduceLE, Int.reduceNeg, Int.reduceAdd, Int.reduceSub, Int.reduceMul, Tryz.f11, kr11, kp11_14, kp11_11, kp11_7, ow11_14, ow11_11, ow11_7, ty3, ty22, ty31, ty34, h5, dimW_zero, List.append_nil]
  | succ d ih =>
    intro k out cp cq gr h1 h2 h3
    have h7 : (k : Int) < n := by omega
    rw [Nat.succ_mul] at h2
    obtain ⟨cp1, gr1, hg, hl⟩ := l_Places14 base b1 b2 c1 c2 E S n k s i hi row hr row 0 out cp cq gr rfl (by omega) h3
    obtain ⟨cp', ih'⟩ := ih (k + 1) (out ++ rowW row s k) cp1 cq gr1 (by omega) (by rw [List.length_append, rowW_length]; omega) hg
    have e : out ++ rowW row s k ++ dimW row s d ((k + 1 : Nat) : Int) = out ++ dimW row s (d + 1) k := by rw [dimW_succ, List.append_assoc]; rfl
    rw [e] at ih'
    simp only [cast1, List.length_append, List.length_cons, List.length_nil, Nat.zero_add, Nat.add_zero, Int.natCast_zero, Int.natCast_add, Int.zero_add, ints_1, ints_0, ] at ih' hl
    refine ⟨cp', ?_⟩
    have h6 : gr = 0 ∨ gr = 1 := by omega
    have h6' : gr1 = 0 ∨ gr1 = 1 := by omega
    rcases h6 with rfl | rfl <;> rcases h6' with rfl | rfl <;> clear h3
    all_goals rw [lp_eq lp11_11]
    all_goals simp (config := { maxSteps := 1000000 }) (disch := omega) only [push_cast, ↓reduceIte, Nat.reduceEqDiff, Nat.reduceAdd, Nat.reduceLT, Nat.reduceLeDiff, Nat.reduceBEq, Nat.reduceMul, Nat.reduceSub, Int.reduceToNat, Int.reduceEq, Int.reduceLT, Int.reduceLE, Int.reduceNeg, Int.reduceAdd, Int.reduceSub, Int.reduceMul, Tryz.f11, kr11, kp11_14, kp11_11, kp11_7, ow11_14, ow11_11, ow11_7, ty3, ty22, ty31, ty34, h7, hl, ih']
end
end Go.Proofs.YtnbijiopcgfmfaaGreat.Tev
/- section.Places, Size, Share. -/
namespace Go.Proofs.YtnbijiopcgfmfaaGreat.Tev
open Go Go.RowKit Go.Proofs Go.Proofs.YtnbijiopcgfmfaaGreat.Q
set_option linter.unusedSectionVars false
set_option maxRecDepth 100000
set_option maxHeartbeats 0
set_option linter.unusedSimpArgs false
set_option linter.unusedVariables false
section
variable (base : Int) (b1 b2 : Bool) (c1 c2 : Option Nat) (E S : List Int)
theorem l_Places7 (hE : ∀ e ∈ E, 1 ≤ e ∧ e ≤ 4000) (hl : E.length ≤ 3) (hS : S.length = E.length) : ∀ (r q : List Int) (i : Nat) (out : List Int) (cp : Option Nat), E.drop i = r → S.drop i = q → (out.length : Int) * pr r ≤ 4000 → (∀ x ∈ out, -9223372036854775808 ≤ x ∧ x ≤ 9223372036854775807) →
    ∃ cp', lp E0 pr0 11 7 ⟨[(1, .pt 0 0), (4, .sl 1 0 out.length 1 cp), (22, SL b1 c1 E.length (ints E)), (23, I E.length), (24, I i)],
        [(0, .box [I base, SL b1 c1 E.length (ints E), SL b2 c2 S.length (ints S)]), (1, .arr (ints out) 1 1)], 2⟩ =
      some (.exit 0, ⟨[(4, .sl 0 0 (plcW r q out).length 1 cp')], [(0, .arr (ints (plcW r q out)) 0 1)], 1⟩) := by
  intro r
  induction r with
  | nil =>
    intro q i out cp h1 h2 h3 h4
    have h5 := drop_nil h1
    have h6 : ¬ (i : Int) < E.length := by omega
    refine ⟨cp, ?_⟩
    rw [lp_eq lp11_7]
    simp (config := { maxSteps := 1000000 }) (disch := omega) only [push_cast, ↓reduceIte, Nat.reduceEqDiff, Nat.reduceAdd, Nat.reduceLT, Nat.reduceLeDiff, Nat.reduceBEq, Nat.reduceMul, Nat.reduceSub, Int.reduceToNat, Int.reduceEq, Int.reduceLT, Int.reduceLE, Int.reduceNeg, Int.reduceAdd, Int.reduceSub, Int.reduceMul, Tryz.f11, kr11, kp11_14, kp11_11, kp11_7, ow11_14, ow11_11, ow11_7, ty3, ty22, ty31, ty34, h6]
    simp [plcW]
  | cons n r ih =>
    intro q i out cp h1 h2 h3 h4
    obtain ⟨g1, g2, g3⟩ := drop_cons h1
    obtain ⟨s, q, rfl⟩ : ∃ s q', q = s :: q' := by
      cases q with
      | nil => have := drop_nil h2; omega
      | cons s q => exact ⟨s, q, rfl⟩
    obtain ⟨g4, g5, g6⟩ := drop_cons h2
    have g8 : (i : Int) < E.length := by omega
    obtain ⟨e0, e1⟩ := hE n (List.mem_of_getElem? g2)
    have hp : 1 ≤ pr r := pr_pos fun e he => (hE e (List.mem_of_mem_drop (g3 ▸ he))).1
    rw [pr, ← Int.mul_assoc] at h3
    have h5 : (out.length : Int) * n ≤ 4000 := mul_one_le (Int.mul_nonneg (by omega) (by omega)) hp h3
    have h6 : (out.length : Int) ≤ 4000 := mul_one_le (by omega) e0 h5
    have en : (n.toNat : Int) = n := by omega
    have h7 : out.length + (n.toNat - 1) * out.length ≤ 4000 := by
      have : ((n.toNat * out.length : Nat) : Int) ≤ 4000 := by push_cast; rw [en, Int.mul_comm]; exact h5
      obtain ⟨m, hm⟩ : ∃ m, n.toNat = m + 1 := ⟨n.toNat - 1, by omega⟩
      rw [hm] at this ⊢
      rw [Nat.succ_mul] at this
      simp only [Nat.add_sub_cancel]
      omega
    obtain ⟨cp1, hl⟩ := l_Places11 base b1 b2 c1 c2 E S n s e1 i g5 out (by omega) (n.toNat - 1) 1 out cp cp 1 (by omega) h7 (by omega)
    have hd : out ++ dimW out s (n.toNat - 1) ((1 : Nat) : Int) = dimW out s n.toNat 0 := dimW_all out s n.toNat (by omega) h4
    rw [hd] at hl
    obtain ⟨cp', ih'⟩ := ih q (i + 1) (dimW out s n.toNat 0) cp1 g3 g6 (by rw [dimW_length]; push_cast; rw [en, Int.mul_comm n]; exact h3) (fun x hx => dimW_in hx)
    simp only [cast1, List.length_append, List.length_cons, List.length_nil, Nat.zero_add, Nat.add_zero, Int.natCast_zero, Int.natCast_add, Int.zero_add, ints_1, ints_0, ] at ih' hl
    refine ⟨cp', ?_⟩
    rw [lp_eq lp11_7]
    simp (config := { maxSteps := 1000000 }) (disch := omega) only [push_cast, ↓reduceIte, Nat.reduceEqDiff, Nat.reduceAdd, Nat.reduceLT, Nat.reduceLeDiff, Nat.reduceBEq, Nat.reduceMul, Nat.reduceSub, Int.reduceToNat, Int.reduceEq, Int.reduceLT, Int.reduceLE, Int.reduceNeg, Int.reduceAdd, Int.reduceSub, Int.reduceMul, Tryz.f11, kr11, kp11_14, kp11_11, kp11_7, ow11_14, ow11_11, ow11_7, ty3, ty22, ty31, ty34, g1, g8, getD_of g2, hl, ih']
    rfl
theorem c_Places (hE : (E.length : Int) ≤ 9223372036854775806) (hS : (S.length : Int) ≤ 9223372036854775806) :
    CALL 11 [Dsc base b1 c1 E b2 c2 S] = some (.tup [.sl 0 0 (placesQ base E S).length 1 none, I (errD base E S)], [ints (placesQ base E S)]) := by
  have hv := c_Valid base b1 b2 c1 c2 E S hE hS
  unfold placesQ errD
  refine lim_run (fn := Tryz.f11) fn11 rfl body11 (Nat.le_of_ble_eq_true rfl) ok11 ?_
  by_cases hd : okD base E S
  · obtain ⟨x1, x2, x3, x4, x5, x6⟩ := id hd
    have hs := size_some ⟨x1, x2⟩
    unfold plcR
    by_cases h0 : pr E = 0
    · simp (config := { maxSteps := 1000000 }) (disch := omega) only [push_cast, ↓reduceIte, Nat.reduceEqDiff, Nat.reduceAdd, Nat.reduceLT, Nat.reduceLeDiff, Nat.reduceBEq, Nat.reduceMul, Nat.reduceSub, Int.reduceToNat, Int.reduceEq, Int.reduceLT, Int.reduceLE, Int.reduceNeg, Int.reduceAdd, Int.reduceSub, Int.reduceMul, Tryz.f11, kr11, kp11_14, kp11_11, kp11_7, ow11_14, ow11_11, ow11_7, ty3, ty22, ty31, ty34, hv, hd, c_size, hs, h0]
    · have hp := exts_pos x1 h0
      obtain ⟨cp', hl⟩ := l_Places7 base b1 b2 c1 c2 E S (fun e he => ⟨hp e he, (x1.2 e he).2⟩) x1.1 x3 E S 0 [base] (some 1) rfl rfl (by simp; omega) (by intro x hx; simp at hx; subst hx; rcases x6 with h | h; exact absurd h h0; omega)
      simp only [cast1, List.length_append, List.length_cons, List.length_nil, Nat.zero_add, Nat.add_zero, Int.natCast_zero, Int.natCast_add, Int.zero_add, ints_1, ints_0, ] at hl
      simp (config := { maxSteps := 1000000 }) (disch := omega) only [push_cast, ↓reduceIte, Nat.reduceEqDiff, Nat.reduceAdd, Nat.reduceLT, Nat.reduceLeDiff, Nat.reduceBEq, Nat.reduceMul, Nat.reduceSub, Int.reduceToNat, Int.reduceEq, Int.reduceLT, Int.reduceLE, Int.reduceNeg, Int.reduceAdd, Int.reduceSub, Int.reduceMul, Tryz.f11, kr11, kp11_14, kp11_11, kp11_7, ow11_14, ow11_11, ow11_7, ty3, ty22, ty31, ty34, hv, hd, c_size, hs, h0, hl]
  · simp (config := { maxSteps := 1000000 }) (disch := omega) only [push_cast, ↓reduceIte, Nat.reduceEqDiff, Nat.reduceAdd, Nat.reduceLT, Nat.reduceLeDiff, Nat.reduceBEq, Nat.reduceMul, Nat.reduceSub, Int.reduceToNat, Int.reduceEq, Int.reduceLT, Int.reduceLE, Int.reduceNeg, Int.reduceAdd, Int.reduceSub, Int.reduceMul, Tryz.f11, kr11, kp11_14, kp11_11, kp11_7, ow11_14, ow11_11, ow11_7, ty3, ty22, ty31, ty34, hv, hd]
theorem c_Size (hE : (E.length : Int) ≤ 9223372036854775806) (hS : (S.length : Int) ≤ 9223372036854775806) :
    CALL 29 [Dsc base b1 c1 E b2 c2 S] = some (.tup [I (sizeD base E S), I (errD base E S)], []) := by
  have hv := c_Valid base b1 b2 c1 c2 E S hE hS
  unfold sizeD errD
  refine lim_run (fn := Tryz.f29) fn29 rfl body29 (Nat.le_of_ble_eq_true rfl) ok29 ?_
  by_cases hd : okD base E S
  · have hs := size_some ⟨hd.1, hd.2.1⟩
    simp (config := { maxSteps := 1000000 }) (disch := omega) only [push_cast, ↓reduceIte, Nat.reduceEqDiff, Nat.reduceAdd, Nat.reduceLT, Nat.reduceLeDiff, Nat.reduceBEq, Nat.reduceMul, Nat.reduceSub, Int.reduceToNat, Int.reduceEq, Int.reduceLT, Int.reduceLE, Int.reduceNeg, Int.reduceAdd, Int.reduceSub, Int.reduceMul, Tryz.f29, kr29, ty3, ty22, ty31, ty34, hv, hd, c_size, hs]
  · simp (config := { maxSteps := 1000000 }) (disch := omega) only [push_cast, ↓reduceIte, Nat.reduceEqDiff, Nat.reduceAdd, Nat.reduceLT, Nat.reduceLeDiff, Nat.reduceBEq, Nat.reduceMul, Nat.reduceSub, Int.reduceToNat, Int.reduceEq, Int.reduceLT, Int.reduceLE, Int.reduceNeg, Int.reduceAdd, Int.reduceSub, Int.reduceMul, Tryz.f29, kr29, ty3, ty22, ty31, ty34, hv, hd]
end
end Go.Proofs.YtnbijiopcgfmfaaGreat.Tev
/- section.Whole. -/
namespace Go.Proofs.YtnbijiopcgfmfaaGreat.Tev
open Go Go.RowKit Go.Proofs Go.Proofs.YtnbijiopcgfmfaaGreat.Q
set_option linter.unusedSectionVars false
set_option maxRecDepth 100000
set_option maxHeartbeats 0
set_option linter.unusedSimpArgs false
set_option linter.unusedVariables false
theorem l_Whole (b : Bool) (c : Option Nat) (E : List Int) (hE : exts E) : ∀ (r : List Int) (i : Nat) (a : Int) (st : List Int), E.drop i = r → 0 ≤ a → a ≤ B4 i → st.length = i →
    lp E0 pr0 18 6 ⟨[(2, .pt 0 0), (4, .pt 3 0), (5, I a), (15, SL b c E.length (ints E)), (16, I E.length), (17, I i)],
        [(0, .box [I 0, .c (.s (some 0) 0 []), .c (.s (some 0) 0 [])]), (1, .arr (ints E) 1 1), (2, .arr (ints st) 2 1), (3, .box [I 0, .sl 1 0 E.length 1 none, .sl 2 0 st.length 1 none])], 4⟩ =
      some (.exit 0, ⟨[(2, .pt 0 0), (4, .pt 3 0)],
        [(0, .box [I 0, .c (.s (some 0) 0 []), .c (.s (some 0) 0 [])]), (1, .arr (ints E) 1 1), (2, .arr (ints (st ++ wholeS a r)) 2 1), (3, .box [I 0, .sl 1 0 E.length 1 none, .sl 2 0 (st ++ wholeS a r).length 1 none])], 4⟩) := by
  intro r
  have hl := hE.1
  induction r with
  | nil =>
    intro i a st h1 h2 h3 h4
    have h5 := drop_nil h1
    have h6 : ¬ (i : Int) < E.length := by omega
    rw [lp_eq lp18_6]
    simp (config := { maxSteps := 1000000 }) (disch := omega) only [push_cast, ↓reduceIte, Nat.reduceEqDiff, Nat.reduceAdd, Nat.reduceLT, Nat.reduceLeDiff, Nat.reduceBEq, Nat.reduceMul, Nat.reduceSub, Int.reduceToNat, Int.reduceEq, Int.reduceLT, Int.reduceLE, Int.reduceNeg, Int.reduceAdd, Int.reduceSub, Int.reduceMul, Tryz.f18, kr18, kp18_6, ow18_6, ty3, ty22, ty31, ty34, h6, wholeS, List.append_nil]
  | cons x r ih =>
    intro i a st h1 h2 h3 h4
    obtain ⟨g1, g2, g3⟩ := drop_cons h1
    have g8 : (i : Int) < E.length := by omega
    obtain ⟨e0, e1⟩ := hE.2 x (List.mem_of_getElem? g2)
    obtain ⟨p0, p1⟩ := B4_step (n := i) (by omega) h2 h3 e0 e1
    have p2 := B4_le (i + 1)
    have e : st ++ [a] ++ wholeS (a * x) r = st ++ wholeS a (x :: r) := by simp [wholeS]
    have ih' := ih (i + 1) (a * x) (st ++ [a]) g3 p0 p1 (by simp [h4])
    rw [e] at ih'
    simp only [cast1, List.length_append, List.length_cons, List.length_nil, Nat.zero_add, Nat.add_zero, Int.natCast_zero, Int.natCast_add, Int.zero_add, ints_1, ints_0, ] at ih'
    rw [lp_eq lp18_6]
    simp (config := { maxSteps := 1000000 }) (disch := omega) only [push_cast, ↓reduceIte, Nat.reduceEqDiff, Nat.reduceAdd, Nat.reduceLT, Nat.reduceLeDiff, Nat.reduceBEq, Nat.reduceMul, Nat.reduceSub, Int.reduceToNat, Int.reduceEq, Int.reduceLT, Int.reduceLE, Int.reduceNeg, Int.reduceAdd, Int.reduceSub, Int.reduceMul, Tryz.f18, kr18, kp18_6, ow18_6, ty3, ty22, ty31, ty34, g1, g8, getD_of g2, ih']
theorem c_Whole (b : Bool) (c : Option Nat) (E : List Int) (hE : (E.length : Int) ≤ 9223372036854775806) :
    CALL 18 [SL b c E.length (ints E)] = some (.tup [.agg [I 0, .sl 0 0 (wholeE E).length 1 none, .sl 1 0 (wholeT E).length 1 none], I (errE E)], [ints (wholeE E), ints (wholeT E)]) := by
  unfold wholeE wholeT errE
  refine lim_run (fn := Tryz.f18) fn18 rfl body18 (Nat.le_of_ble_eq_true rfl) ok18 ?_
  by_cases h : okE E
  · have h0 : ¬ sizeQ E < 0 := fun q => size_neg.1 q h
    have h2 := h.1.1
    have hl := l_Whole b c E h.1 E 0 1 [] rfl (by omega) (by simp [B4]) rfl
    rw [List.nil_append] at hl
    simp only [cast1, List.length_append, List.length_cons, List.length_nil, Nat.zero_add, Nat.add_zero, Int.natCast_zero, Int.natCast_add, Int.zero_add, ints_1, ints_0, ] at hl
    simp (config := { maxSteps := 1000000 }) (disch := omega) only [push_cast, ↓reduceIte, Nat.reduceEqDiff, Nat.reduceAdd, Nat.reduceLT, Nat.reduceLeDiff, Nat.reduceBEq, Nat.reduceMul, Nat.reduceSub, Int.reduceToNat, Int.reduceEq, Int.reduceLT, Int.reduceLE, Int.reduceNeg, Int.reduceAdd, Int.reduceSub, Int.reduceMul, Tryz.f18, kr18, kp18_6, ow18_6, ty3, ty22, ty31, ty34, c_size, h0, h, c_Clone, hl]
  · have h0 : sizeQ E < 0 := size_neg.2 h
    simp (config := { maxSteps := 1000000 }) (disch := omega) only [push_cast, ↓reduceIte, Nat.reduceEqDiff, Nat.reduceAdd, Nat.reduceLT, Nat.reduceLeDiff, Nat.reduceBEq, Nat.reduceMul, Nat.reduceSub, Int.reduceToNat, Int.reduceEq, Int.reduceLT, Int.reduceLE, Int.reduceNeg, Int.reduceAdd, Int.reduceSub, Int.reduceMul, Tryz.f18, kr18, kp18_6, ow18_6, ty3, ty22, ty31, ty34, c_size, h0, h]
end Go.Proofs.YtnbijiopcgfmfaaGreat.Tev
/- How a descriptor is made as flat as can be: it has the same places. -/
namespace Go.Proofs.YtnbijiopcgfmfaaGreat.Q
open Go
set_option linter.unusedSectionVars false
set_option linter.unusedVariables false
set_option linter.unusedSimpArgs false
/-- One dimension more. -/
def stripS (es ss : List Int) (x s : Int) : List Int × List Int :=
  if x = 1 then (es, ss)
  else if es ≠ [] ∧ s = es.getD (es.length - 1) 0 * ss.getD (es.length - 1) 0 then (es.set (es.length - 1) (es.getD (es.length - 1) 0 * x), ss)
  else (es ++ [x], ss ++ [s])
def stripG : List Int → List Int → List Int × List Int → List Int × List Int
  | x :: E, s :: S, p => stripG E S (stripS p.1 p.2 x s)
  | _, _, p => p
/-- What holds between two rounds. -/
structure SInv (p : List Int × List Int) (r : List Int) : Prop where
  len : p.2.length = p.1.length
  sm : p.1.length + r.length ≤ 3
  e1 : ∀ e ∈ p.1, 1 ≤ e
  prd : pr p.1 * pr r ≤ 4000
  near : ∀ s ∈ p.2, nearS s
theorem pr_app : ∀ (l m : List Int), pr (l ++ m) = pr l * pr m
  | [], m => by simp [pr]
  | x :: l, m => by rw [List.cons_append, pr, pr, pr_app l m, Int.mul_assoc]
theorem pr_one (x : Int) : pr [x] = x := by simp [pr]
theorem pr_mem : ∀ {l : List Int} {x : Int}, (∀ e ∈ l, 1 ≤ e) → x ∈ l → x ≤ pr l
  | [], x, _, h => by simp at h
  | y :: l, x, h1, h => by
    have p1 := pr_pos fun e he => h1 e (List.mem_cons_of_mem _ he)
    have y1 := h1 y (by simp)
    rw [pr]
    rcases List.mem_cons.1 h with rfl | h
    · have := Int.mul_le_mul_of_nonneg_left p1 (show 0 ≤ x by omega)
      omega
    · have h2 := pr_mem (fun e he => h1 e (List.mem_cons_of_mem _ he)) h
      have := Int.mul_le_mul_of_nonneg_right y1 (show 0 ≤ pr l by omega)
      omega
theorem last_of {es : List Int} (h : es ≠ []) : ∃ l e, es = l ++ [e] ∧ es.length - 1 = l.length ∧ es.getD (es.length - 1) 0 = e ∧ ∀ v, es.set (es.length - 1) v = l ++ [v] := by
  obtain ⟨l, e, rfl⟩ : ∃ l e, es = l ++ [e] := ⟨es.dropLast, es.getLast h, (List.dropLast_concat_getLast h).symm⟩
  refine ⟨l, e, rfl, by simp, by simp, fun v => by simp⟩
theorem SInv.step {p : List Int × List Int} {x s : Int} {r : List Int} (h : SInv p (x :: r)) (hx : 1 ≤ x) (hr : ∀ e ∈ r, 1 ≤ e) (hs : nearS s) : SInv (stripS p.1 p.2 x s) r := by
  obtain ⟨es, ss⟩ := p
  have h1 := h.len
  have h2 := h.sm
  have h3 := h.e1
  have h4 := h.prd
  have h5 := h.near
  simp only [List.length_cons] at h1 h2 h3 h4 h5
  rw [pr] at h4
  unfold stripS
  by_cases hx1 : x = 1
  · subst hx1
    rw [if_pos rfl]
    exact ⟨h1, by simp only; omega, h3, by simpa using h4, h5⟩
  · rw [if_neg hx1]
    by_cases hc : es ≠ [] ∧ s = es.getD (es.length - 1) 0 * ss.getD (es.length - 1) 0
    · rw [if_pos hc]
      obtain ⟨l, e, rfl, k1, k2, k3⟩ := last_of hc.1
      simp only [k2, k3]
      have he := h3 e (by simp)
      rw [pr_app, pr_one] at h4
      refine ⟨by simpa using h1, by simp at h2 ⊢; omega, fun z hz => ?_, ?_, h5⟩
      · rcases List.mem_append.1 hz with hz | hz
        · exact h3 z (by simp [hz])
        · simp only [List.mem_cons, List.not_mem_nil, or_false] at hz
          subst hz
          have := Int.mul_le_mul_of_nonneg_left hx (show 0 ≤ e by omega)
          omega
      · rw [pr_app, pr_one, ← Int.mul_assoc, Int.mul_assoc]
        exact h4
    · rw [if_neg hc]
      refine ⟨by simp [h1], by simp; omega, fun z hz => ?_, ?_, fun z hz => ?_⟩
      · rcases List.mem_append.1 hz with hz | hz
        · exact h3 z hz
        · simp only [List.mem_cons, List.not_mem_nil, or_false] at hz
          subst hz; exact hx
      · rw [pr_app, pr_one, Int.mul_assoc]; exact h4
      · rcases List.mem_append.1 hz with hz | hz
        · exact h5 z hz
        · simp only [List.mem_cons, List.not_mem_nil, or_false] at hz
          subst hz; exact hs
/-- What bounds the two products. -/
theorem SInv.bd {es ss : List Int} {x : Int} {r : List Int} (h : SInv (es, ss) (x :: r)) (hx : 1 ≤ x) (hr : ∀ e ∈ r, 1 ≤ e) (hne : es ≠ []) :
    (1 ≤ es.getD (es.length - 1) 0 ∧ es.getD (es.length - 1) 0 ≤ 4000) ∧ (1 ≤ es.getD (es.length - 1) 0 * x ∧ es.getD (es.length - 1) 0 * x ≤ 4000) ∧
      -9000000000000 ≤ es.getD (es.length - 1) 0 * ss.getD (es.length - 1) 0 ∧ es.getD (es.length - 1) 0 * ss.getD (es.length - 1) 0 ≤ 9000000000000 := by
  have h1 := h.len
  have h3 := h.e1
  have h4 := h.prd
  have h5 := h.near
  simp only at h1 h3 h4 h5
  obtain ⟨l, e, rfl, k1, k2, k3⟩ := last_of hne
  rw [k2, k1]
  have he := h3 e (by simp)
  have pl := pr_pos fun z hz => h3 z (List.mem_append_left _ hz)
  have pr' := pr_pos hr
  rw [pr_app, pr_one, pr] at h4
  have a1 : 1 ≤ e * x := by
    have := Int.mul_le_mul_of_nonneg_left hx (show 0 ≤ e by omega)
    omega
  have a2 : e * x ≤ 4000 := by
    have b1 : e * x ≤ pr l * (e * x) := by
      have := Int.mul_le_mul_of_nonneg_right pl (show 0 ≤ e * x by omega)
      omega
    have b2 : pr l * (e * x) ≤ pr l * (e * x) * pr r := by
      have := Int.mul_le_mul_of_nonneg_left pr' (show 0 ≤ pr l * (e * x) by omega)
      omega
    have b3 : pr l * (e * x) * pr r = pr l * e * (x * pr r) := by rw [Int.mul_assoc, Int.mul_assoc, Int.mul_assoc]
    omega
  have a3 : e ≤ 4000 := by
    have := Int.mul_le_mul_of_nonneg_left hx (show 0 ≤ e by omega)
    omega
  have a4 : nearS (ss.getD l.length 0) := by
    have hl : l.length < ss.length := by rw [h1]; simp
    rw [List.getD_eq_getElem?_getD, List.getElem?_eq_getElem hl]
    exact h5 _ (List.getElem_mem hl)
  have := mul_bd (a := e) (b := ss.getD l.length 0) (A := 4000) (B := 2147483648) (by omega) a3 a4.1 a4.2
  exact ⟨⟨he, a3⟩, ⟨a1, a2⟩, by omega, by omega⟩

/-! The places without wraps. -/
def dimP (out : List Int) (s : Int) (n : Nat) : List Int := (List.range n).flatMap fun t : Nat => out.map fun x => x + (t : Int) * s
def plP : List Int → List Int → List Int → List Int
  | n :: E, s :: S, out => plP E S (dimP out s n.toNat)
  | _, _, out => out
theorem mem_dimP {out : List Int} {s y : Int} {d : Nat} : y ∈ dimP out s d ↔ ∃ x ∈ out, ∃ t : Nat, t < d ∧ y = x + (t : Int) * s := by
  unfold dimP
  simp only [List.mem_flatMap, List.mem_range, List.mem_map]
  constructor
  · rintro ⟨t, ht, x, hx, rfl⟩; exact ⟨x, hx, t, ht, rfl⟩
  · rintro ⟨x, hx, t, ht, rfl⟩; exact ⟨t, ht, x, hx, rfl⟩
theorem plcW_plP : ∀ (E S out : List Int) (d : Nat), d ≤ 3 → E.length ≤ d → S.length = E.length → (∀ e ∈ E, 1 ≤ e ∧ e ≤ 4000) → (∀ s ∈ S, nearS s) →
    (∀ x ∈ out, -100000000000000 + 10000000000000 * (d : Int) ≤ x ∧ x ≤ 100000000000000 - 10000000000000 * (d : Int)) → plcW E S out = plP E S out
  | [], S, out, d, _, _, _, _, _, _ => by simp [plcW, plP]
  | _ :: _, [], _, _, _, _, h, _, _, _ => by simp at h
  | n :: E, s :: S, out, 0, _, hl, _, _, _, _ => by simp at hl
  | n :: E, s :: S, out, d + 1, hd, hl, hS, hE, hN, ho => by
    have hn := hE n (by simp)
    have hs := hN s (by simp)
    have hy : ∀ x ∈ out, ∀ t : Nat, t < n.toNat → IntKind.i64.wrap (x + IntKind.i64.wrap ((t : Int) * s)) = x + t * s := by
      intro x hx t ht
      have h1 := ho x hx
      have h2 := way_t hs (t := t) (n := n) (by omega) (by omega) hn.2
      rw [w64 (x := (t : Int) * s) (by omega) (by omega), w64 (by omega) (by omega)]
    have e : dimW out s n.toNat 0 = dimP out s n.toNat := by
      unfold dimW dimP rowW
      rw [List.flatMap_def, List.flatMap_def]
      congr 1
      refine List.map_congr_left fun t ht => List.map_congr_left fun x hx => ?_
      rw [Int.zero_add]
      exact hy x hx t (List.mem_range.1 ht)
    rw [plcW, plP, e]
    refine plcW_plP E S _ d (by omega) (by simpa using hl) (by simpa using hS) (fun e he => hE e (by simp [he])) (fun e he => hN e (by simp [he])) fun y hm => ?_
    obtain ⟨x, hx, t, ht, rfl⟩ := mem_dimP.1 hm
    have h1 := ho x hx
    have h2 := way_t hs (t := t) (n := n) (by omega) (by omega) hn.2
    omega
theorem plP_snoc (x s : Int) : ∀ (es ss out : List Int), ss.length = es.length → plP (es ++ [x]) (ss ++ [s]) out = dimP (plP es ss out) s x.toNat
  | [], [], out, _ => by simp [plP]
  | [], _ :: _, _, h => by simp at h
  | _ :: _, [], _, h => by simp at h
  | e :: es, t :: ss, out, h => by
    rw [List.cons_append, List.cons_append, plP, plP]
    exact plP_snoc x s es ss _ (by simpa using h)
theorem dimP_one (out : List Int) (s : Int) : dimP out s 1 = out := by simp [dimP]
theorem dimP_succ (out : List Int) (s : Int) (n : Nat) : dimP out s (n + 1) = dimP out s n ++ out.map fun x => x + (n : Int) * s := by
  unfold dimP
  rw [List.range_succ, List.flatMap_append]
  simp
theorem dimP_add (out : List Int) (s : Int) (a : Nat) : ∀ b : Nat, dimP out s (a + b) = dimP out s a ++ (dimP out s b).map fun x => x + (a : Int) * s
  | 0 => by simp [dimP]
  | b + 1 => by
    rw [← Nat.add_assoc, dimP_succ, dimP_add out s a b, dimP_succ, List.map_append, List.append_assoc]
    congr 2
    rw [List.map_map]
    refine List.map_congr_left fun x _ => ?_
    show x + ((a + b : Nat) : Int) * s = x + (b : Int) * s + (a : Int) * s
    rw [Int.natCast_add, Int.add_mul]
    omega
theorem dimP_mul (out : List Int) (t : Int) (e : Nat) : ∀ x : Nat, dimP (dimP out t e) ((e : Int) * t) x = dimP out t (x * e)
  | 0 => by simp [dimP]
  | x + 1 => by
    rw [dimP_succ, dimP_mul out t e x, Nat.succ_mul, dimP_add]
    congr 1
    refine List.map_congr_left fun y _ => ?_
    rw [Int.natCast_mul, Int.mul_assoc]
theorem stripS_pl {es ss : List Int} {x s : Int} {r : List Int} (h : SInv (es, ss) (x :: r)) (hx : 1 ≤ x) (out : List Int) : plP (stripS es ss x s).1 (stripS es ss x s).2 out = dimP (plP es ss out) s x.toNat := by
  have h1 := h.len
  have h3 := h.e1
  simp only at h1 h3
  unfold stripS
  by_cases hx1 : x = 1
  · subst hx1
    rw [if_pos rfl]
    exact (dimP_one _ _).symm
  · rw [if_neg hx1]
    by_cases hc : es ≠ [] ∧ s = es.getD (es.length - 1) 0 * ss.getD (es.length - 1) 0
    · rw [if_pos hc]
      obtain ⟨l, e, rfl, k1, k2, k3⟩ := last_of hc.1
      have hss : ss ≠ [] := by
        rintro rfl
        simp at h1
      obtain ⟨m, u, rfl, m1, m2, m3⟩ := last_of hss
      have hlm : m.length = l.length := by simpa using h1
      have hg : (m ++ [u]).getD ((l ++ [e]).length - 1) 0 = u := by rw [k1, ← hlm, ← m1]; exact m2
      have hc2 := hc.2
      rw [k2, hg] at hc2
      subst hc2
      have he := h3 e (by simp)
      simp only [k2, k3]
      rw [plP_snoc _ _ _ _ _ hlm, plP_snoc _ _ _ _ _ hlm]
      have e1 : e = (e.toNat : Int) := by omega
      have e2 : (e * x).toNat = x.toNat * e.toNat := by
        rw [Int.mul_comm, Int.toNat_mul (by omega) (by omega)]
      rw [e2, ← dimP_mul, ← e1]
    · rw [if_neg hc]
      exact plP_snoc _ _ _ _ _ h1
theorem strip_keep : ∀ (r t es ss : List Int), t.length = r.length → (∀ e ∈ r, 1 ≤ e) → (∀ s ∈ t, nearS s) → SInv (es, ss) r →
    SInv (stripG r t (es, ss)) [] ∧ ∀ out, plP (stripG r t (es, ss)).1 (stripG r t (es, ss)).2 out = plP r t (plP es ss out)
  | [], t, es, ss, _, _, _, h => ⟨h, fun out => by simp [stripG, plP]⟩
  | x :: r, [], es, ss, hl, _, _, _ => by simp at hl
  | x :: r, s :: t, es, ss, hl, hr, ht, h => by
    have hx := hr x (by simp)
    have hr' : ∀ e ∈ r, 1 ≤ e := fun e he => hr e (by simp [he])
    have hst := h.step hx hr' (ht s (by simp))
    obtain ⟨k1, k2⟩ := strip_keep r t (stripS es ss x s).1 (stripS es ss x s).2 (by simpa using hl) hr' (fun e he => ht e (by simp [he])) hst
    refine ⟨k1, fun out => ?_⟩
    show plP (stripG r t (stripS es ss x s)).1 (stripG r t (stripS es ss x s)).2 out = _
    rw [show stripS es ss x s = ((stripS es ss x s).1, (stripS es ss x s).2) from rfl, k2 out, plP, stripS_pl h hx]
theorem SInv.start {E : List Int} (h3 : E.length ≤ 3) (hp : pr E ≤ 4000) : SInv ([], []) E := ⟨rfl, by simpa using h3, fun e he => by simp at he, by simpa [pr] using hp, fun s hs => by simp at hs⟩
theorem plcW_base {b : Int} {E S : List Int} (hE : ∀ e ∈ E, 1 ≤ e ∧ e ≤ 4000) (h3 : E.length ≤ 3) (hS : S.length = E.length) (hN : ∀ s ∈ S, nearS s) (h0 : 0 ≤ b) (h1 : b ≤ 2147483648) : plcW E S [b] = plP E S [b] :=
  plcW_plP E S [b] 3 (by omega) h3 hS hE hN fun x hx => by
    simp only [List.mem_cons, List.not_mem_nil, or_false] at hx
    subst hx
    omega
theorem strip_ok {b : Int} {E S : List Int} (h : okD b E S) (hp : pr E ≠ 0) : okD b (stripG E S ([], [])).1 (stripG E S ([], [])).2 ∧ placesQ b (stripG E S ([], [])).1 (stripG E S ([], [])).2 = placesQ b E S := by
  have h1 := exts_pos h.1 hp
  obtain ⟨k1, k2⟩ := strip_keep E S [] [] h.2.2.1 h1 h.2.2.2.2.1 (SInv.start h.1.1 h.2.1)
  generalize stripG E S ([], []) = p at k1 k2 ⊢
  have hb := (h.2.2.2.2.2.resolve_left hp).1
  have h0 := h.2.2.2.1
  have p4 : pr p.1 ≤ 4000 := by have := k1.prd; simpa [pr] using this
  have e4 : ∀ e ∈ p.1, 1 ≤ e ∧ e ≤ 4000 := fun e he => ⟨k1.e1 e he, by have := pr_mem k1.e1 he; omega⟩
  have hx : exts p.1 := ⟨by have := k1.sm; simpa using this, fun e he => by have := e4 e he; omega⟩
  have hp' : pr p.1 ≠ 0 := by have := pr_pos k1.e1; omega
  have hpl : plcR b p.1 p.2 = plcR b E S := by
    unfold plcR
    rw [if_neg hp, if_neg hp', plcW_base e4 hx.1 k1.len k1.near h0 hb, plcW_base (fun e he => ⟨h1 e he, (h.1.2 e he).2⟩) h.1.1 h.2.2.1 h.2.2.2.2.1 h0 hb, k2]
    rfl
  have hall := (all_plcR h.1 h.2.2.1 h.2.2.2.2.1 h0 (by omega)).2 h.2.2.2.2.2
  rw [← hpl] at hall
  have hd : okD b p.1 p.2 := ⟨hx, p4, k1.len, h0, k1.near, (all_plcR hx k1.len k1.near h0 (by omega)).1 hall⟩
  exact ⟨hd, by unfold placesQ; rw [if_pos h, if_pos hd, hpl]⟩
def stE (base : Int) (E S : List Int) : List Int := if okD base E S then (if pr E = 0 then E else (stripG E S ([], [])).1) else []
def stT (base : Int) (E S : List Int) : List Int := if okD base E S then (if pr E = 0 then S else (stripG E S ([], [])).2) else []
def stB (base : Int) (E S : List Int) : Int := if okD base E S then base else 0
theorem strip_all {b : Int} {E S : List Int} (h : okD b E S) : okD (stB b E S) (stE b E S) (stT b E S) ∧ placesQ (stB b E S) (stE b E S) (stT b E S) = placesQ b E S := by
  unfold stB stE stT
  rw [if_pos h, if_pos h, if_pos h]
  by_cases hp : pr E = 0
  · rw [if_pos hp, if_pos hp]; exact ⟨h, rfl⟩
  · rw [if_neg hp, if_neg hp]; exact strip_ok h hp
theorem st_len {b : Int} {E S : List Int} : (stE b E S).length ≤ 3 ∧ (stT b E S).length ≤ 3 := by
  by_cases h : okD b E S
  · obtain ⟨h1, _⟩ := strip_all h
    exact ⟨h1.1.1, by rw [h1.2.2.1]; exact h1.1.1⟩
  · unfold stE stT; rw [if_neg h, if_neg h]; simp
end Go.Proofs.YtnbijiopcgfmfaaGreat.Q
/- section.Count. -/
namespace Go.Proofs.YtnbijiopcgfmfaaGreat.Tev
open Go Go.RowKit Go.Proofs Go.Proofs.YtnbijiopcgfmfaaGreat.Q
set_option linter.unusedSectionVars false
set_option maxRecDepth 100000
set_option maxHeartbeats 0
set_option linter.unusedSimpArgs false
set_option linter.unusedVariables false
theorem tdiv_w {a b s : Int} (h : okT a b s) : IntKind.i64.wrap (Int.tdiv (b - a + s) s) = Int.tdiv (b - a + s) s := by
  obtain ⟨ha, hb, hs, h0⟩ := h
  have := tdiv_bd (b - a + s) s
  exact w64 (by omega) (by omega)
theorem c_Count (a b s : Int) : CALL 27 [.agg [I a, I b, I s]] = some (.tup [I (if okT a b s then cnt a b s else 0), I (if okT a b s then 0 else 2)], []) := by
  refine lim_run (fn := Tryz.f27) fn27 rfl body27 (Nat.le_of_ble_eq_true rfl) ok27 ?_
  by_cases h1 : nearS a
  · by_cases h2 : nearS b
    · by_cases h3 : nearS s
      · by_cases h4 : s = 0
        · subst h4
          have hk : ¬ okT a b 0 := fun h => h.2.2.2 rfl
          simp (config := { maxSteps := 1000000 }) (disch := omega) only [push_cast, ↓reduceIte, Nat.reduceEqDiff, Nat.reduceAdd, Nat.reduceLT, Nat.reduceLeDiff, Nat.reduceBEq, Nat.reduceMul, Nat.reduceSub, Int.reduceToNat, Int.reduceEq, Int.reduceLT, Int.reduceLE, Int.reduceNeg, Int.reduceAdd, Int.reduceSub, Int.reduceMul, Tryz.f27, kr27, ty3, ty34, ty63, c_isNumber, h1, h2, h3, hk]
        · have hk : okT a b s := ⟨h1, h2, h3, h4⟩
          have hw := tdiv_w hk
          have h1' := h1
          have h2' := h2
          have h3' := h3
          unfold nearS at h1' h2' h3'
          simp (config := { maxSteps := 1000000 }) (disch := omega) only [push_cast, ↓reduceIte, Nat.reduceEqDiff, Nat.reduceAdd, Nat.reduceLT, Nat.reduceLeDiff, Nat.reduceBEq, Nat.reduceMul, Nat.reduceSub, Int.reduceToNat, Int.reduceEq, Int.reduceLT, Int.reduceLE, Int.reduceNeg, Int.reduceAdd, Int.reduceSub, Int.reduceMul, Tryz.f27, kr27, ty3, ty34, ty63, c_isNumber, h1, h2, h3, h4, hk, hw]
          rfl
      · have hk : ¬ okT a b s := fun h => h3 h.2.2.1
        simp (config := { maxSteps := 1000000 }) (disch := omega) only [push_cast, ↓reduceIte, Nat.reduceEqDiff, Nat.reduceAdd, Nat.reduceLT, Nat.reduceLeDiff, Nat.reduceBEq, Nat.reduceMul, Nat.reduceSub, Int.reduceToNat, Int.reduceEq, Int.reduceLT, Int.reduceLE, Int.reduceNeg, Int.reduceAdd, Int.reduceSub, Int.reduceMul, Tryz.f27, kr27, ty3, ty34, ty63, c_isNumber, h1, h2, h3, hk]
    · have hk : ¬ okT a b s := fun h => h2 h.2.1
      simp (config := { maxSteps := 1000000 }) (disch := omega) only [push_cast, ↓reduceIte, Nat.reduceEqDiff, Nat.reduceAdd, Nat.reduceLT, Nat.reduceLeDiff, Nat.reduceBEq, Nat.reduceMul, Nat.reduceSub, Int.reduceToNat, Int.reduceEq, Int.reduceLT, Int.reduceLE, Int.reduceNeg, Int.reduceAdd, Int.reduceSub, Int.reduceMul, Tryz.f27, kr27, ty3, ty34, ty63, c_isNumber, h1, h2, hk]
  · have hk : ¬ okT a b s := fun h => h1 h.1
    simp (config := { maxSteps := 1000000 }) (disch := omega) only [push_cast, ↓reduceIte, Nat.reduceEqDiff, Nat.reduceAdd, Nat.reduceLT, Nat.reduceLeDiff, Nat.reduceBEq, Nat.reduceMul, Nat.reduceSub, Int.reduceToNat, Int.reduceEq, Int.reduceLT, Int.reduceLE, Int.reduceNeg, Int.reduceAdd, Int.reduceSub, Int.reduceMul, Tryz.f27, kr27, ty3, ty34, ty63, c_isNumber, h1, hk]
end Go.Proofs.YtnbijiopcgfmfaaGreat.Tev
/- Sections of sections: where the elements lie. -/
namespace Go.Proofs.YtnbijiopcgfmfaaGreat.Tev
open Go Go.RowKit Go.Proofs Go.Proofs.YtnbijiopcgfmfaaGreat.Q
set_option linter.unusedSectionVars false
set_option linter.unusedVariables false
set_option linter.unusedSimpArgs false
/-! Places by their number. -/
def prN : List Int → Nat
  | [] => 1
  | e :: E => e.toNat * prN E
theorem prN_pr : ∀ {E : List Int}, (∀ e ∈ E, 0 ≤ e) → (prN E : Int) = pr E
  | [], _ => rfl
  | e :: E, h => by
    have h1 := h e (by simp)
    rw [prN, pr, ← prN_pr (E := E) (fun x hx => h x (by simp [hx])), Int.natCast_mul]
    congr 1
    omega
def addr : List Int → List Int → Nat → Int
  | n :: E, s :: S, k => ((k % n.toNat : Nat) : Int) * s + addr E S (k / n.toNat)
  | _, _, _ => 0
theorem dimP_len (out : List Int) (s : Int) (n : Nat) : (dimP out s n).length = n * out.length := by
  induction n with
  | zero => simp [dimP]
  | succ n ih =>
    unfold dimP at ih ⊢
    rw [List.range_succ, List.flatMap_append, List.length_append, ih]
    simp [Nat.succ_mul]
theorem dimP_get (out : List Int) (s : Int) : ∀ (n j : Nat), j < n * out.length → (dimP out s n)[j]? = some (out.getD (j % out.length) 0 + ((j / out.length : Nat) : Int) * s)
  | 0, j, h => by simp at h
  | n + 1, j, h => by
    have hL : 0 < out.length := by rcases Nat.eq_zero_or_pos out.length with q | q; rw [q] at h; simp at h; exact q
    have hl := dimP_len out s n
    have e : dimP out s (n + 1) = dimP out s n ++ out.map fun x => x + (n : Int) * s := by
      unfold dimP; rw [List.range_succ, List.flatMap_append]; simp
    rw [e]
    by_cases c : j < n * out.length
    · rw [List.getElem?_append_left (by omega)]; exact dimP_get out s n j c
    · rw [Nat.succ_mul] at h
      have h1 : j / out.length = n := by
        rw [Nat.div_eq_iff hL]
        have : n * out.length = out.length * n := Nat.mul_comm _ _
        constructor <;> omega
      have h2 : j % out.length = j - n * out.length := by
        have := Nat.div_add_mod j out.length
        rw [h1, Nat.mul_comm] at this
        omega
      rw [List.getElem?_append_right (by omega), hl, List.getElem?_map, h1, h2]
      have h3 : j - n * out.length < out.length := by omega
      rw [List.getElem?_eq_getElem h3, List.getD_eq_getElem?_getD, List.getElem?_eq_getElem h3]
      rfl
theorem plP_get : ∀ (E S out : List Int), S.length = E.length → (∀ e ∈ E, 1 ≤ e) → 0 < out.length → ∀ k, k < out.length * prN E → (plP E S out)[k]? = some (out.getD (k % out.length) 0 + addr E S (k / out.length))
  | [], S, out, _, _, ho, k, hk => by
    simp only [prN, Nat.mul_one] at hk
    simp only [plP, addr, Nat.mod_eq_of_lt hk, Int.add_zero]
    rw [List.getElem?_eq_getElem hk, List.getD_eq_getElem?_getD, List.getElem?_eq_getElem hk]; rfl
  | n :: E, [], out, h, _, _, _, _ => by simp at h
  | n :: E, s :: S, out, h, hE, ho, k, hk => by
    have hn := hE n (by simp)
    have hn' : 0 < n.toNat := by omega
    have hl := dimP_len out s n.toNat
    have hpos : 0 < n.toNat * out.length := Nat.mul_pos hn' ho
    rw [prN] at hk
    have e1 : n.toNat * out.length = out.length * n.toNat := Nat.mul_comm _ _
    have hk2 : k < (dimP out s n.toNat).length * prN E := by rw [hl, e1, Nat.mul_assoc]; exact hk
    simp only [plP]
    rw [plP_get E S _ (by simpa using h) (fun e he => hE e (by simp [he])) (by omega) k hk2]
    rw [hl]
    have hm : k % (n.toNat * out.length) < n.toNat * out.length := Nat.mod_lt _ hpos
    rw [List.getD_eq_getElem?_getD, dimP_get out s n.toNat _ hm, Option.getD_some]
    have f1 : k % (n.toNat * out.length) % out.length = k % out.length := by rw [e1]; exact Nat.mod_mul_right_mod _ _ _
    have f2 : k % (n.toNat * out.length) / out.length = k / out.length % n.toNat := by rw [e1]; exact Nat.mod_mul_right_div_self _ _ _
    have f3 : k / (n.toNat * out.length) = k / out.length / n.toNat := by rw [e1, Nat.div_div_eq_div_mul]
    rw [f1, f2, f3]
    simp only [addr]
    rw [Int.add_assoc]
/-- The places of a descriptor that has elements. -/
theorem places_get {b : Int} {E S : List Int} (h : okD b E S) (hp : pr E ≠ 0) (k : Nat) (hk : k < prN E) : (placesQ b E S)[k]? = some (b + addr E S k) := by
  have hE := exts_pos h.1 hp
  have e1 : placesQ b E S = plP E S [b] := by
    unfold placesQ plcR
    rw [if_pos h, if_neg hp]
    refine plcW_plP E S [b] 3 (Nat.le_refl _) h.1.1 h.2.2.1 (fun e he => ⟨hE e he, (h.1.2 e he).2⟩) h.2.2.2.2.1 fun x hx => ?_
    simp only [List.mem_cons, List.not_mem_nil, or_false] at hx
    subst hx
    have := h.2.2.2.1
    rcases h.2.2.2.2.2 with q | q
    · exact absurd q hp
    · omega
  rw [e1, plP_get E S [b] h.2.2.1 hE (by simp) k (by simpa using hk)]
  simp [Nat.mod_one]
theorem places_len {b : Int} {E S : List Int} (h : okD b E S) : (placesQ b E S).length = prN E := by
  have h0 : ∀ e ∈ E, 0 ≤ e := fun e he => (h.1.2 e he).1
  by_cases hp : pr E = 0
  · rw [(placesQ_nil h).2 hp]
    have := prN_pr h0
    rw [hp] at this
    simp; omega
  · unfold placesQ plcR
    rw [if_pos h, if_neg hp]
    have := plcW_length E S [b] h.2.2.1 h0
    rw [← prN_pr h0] at this
    simp only [List.length_cons, List.length_nil] at this
    omega
end Go.Proofs.YtnbijiopcgfmfaaGreat.Tev
/- Cuts of descriptors: which elements they take. -/
namespace Go.Proofs.YtnbijiopcgfmfaaGreat.Tev
open Go Go.RowKit Go.Proofs Go.Proofs.YtnbijiopcgfmfaaGreat.Q
set_option linter.unusedSectionVars false
set_option linter.unusedVariables false
set_option linter.unusedSimpArgs false
/-- A subscript: one, or a triple. -/
abbrev SubQ := Bool × Int × Int × Int × Int
def SubQ.n (x : SubQ) : Int := cnt x.2.2.1 x.2.2.2.1 x.2.2.2.2
def SubQ.ok (x : SubQ) (n : Int) : Prop := if x.1 = true then 0 ≤ x.2.1 ∧ x.2.1 ≤ n - 1 else
  okT x.2.2.1 x.2.2.2.1 x.2.2.2.2 ∧ (0 < x.n → 0 ≤ mn x.2.2.1 (x.2.2.1 + (x.n - 1) * x.2.2.2.2) ∧ mx x.2.2.1 (x.2.2.1 + (x.n - 1) * x.2.2.2.2) ≤ n - 1)
instance (x : SubQ) (n : Int) : Decidable (x.ok n) := by unfold SubQ.ok; infer_instance
def cutOk : List SubQ → List Int → Prop
  | [], [] => True
  | x :: X, n :: E => x.ok n ∧ cutOk X E
  | _, _ => False
instance decCut : ∀ (X : List SubQ) (E : List Int), Decidable (cutOk X E)
  | [], [] => inferInstanceAs (Decidable True)
  | x :: X, n :: E => @instDecidableAnd _ _ inferInstance (decCut X E)
  | [], _ :: _ => inferInstanceAs (Decidable False)
  | _ :: _, [] => inferInstanceAs (Decidable False)
def cutE : List SubQ → List Int
  | [] => []
  | x :: X => if x.1 = true then cutE X else x.n :: cutE X
def SubQ.way (x : SubQ) (s : Int) : Int := if 1 < x.n then s * x.2.2.2.2 else s
def cutS : List SubQ → List Int → List Int
  | x :: X, s :: S => if x.1 = true then cutS X S else x.way s :: cutS X S
  | _, _ => []
def SubQ.at0 (x : SubQ) : Int := if x.1 = true then x.2.1 else if 0 < x.n then x.2.2.1 else 0
def cutD : List SubQ → List Int → Int
  | x :: X, s :: S => x.at0 * s + cutD X S
  | _, _ => 0
/-- Which element of the whole an element of the cut is. -/
def kap : List SubQ → List Int → Nat → Nat
  | x :: X, n :: E, j => if x.1 = true then x.2.1.toNat + n.toNat * kap X E j else (x.2.2.1 + ((j % x.n.toNat : Nat) : Int) * x.2.2.2.2).toNat + n.toNat * kap X E (j / x.n.toNat)
  | _, _, _ => 0
theorem cutOk_len : ∀ {X : List SubQ} {E : List Int}, cutOk X E → X.length = E.length
  | [], [], _ => rfl
  | x :: X, n :: E, h => by simp [cutOk_len h.2]
  | [], _ :: _, h => h.elim
  | _ :: _, [], h => h.elim
theorem tri_in {x : SubQ} {n : Int} (hx : ¬ x.1 = true) (h : x.ok n) (h0 : 0 < x.n) {t : Int} (t0 : 0 ≤ t) (t1 : t < x.n) : 0 ≤ x.2.2.1 + t * x.2.2.2.2 ∧ x.2.2.1 + t * x.2.2.2.2 ≤ n - 1 := by
  unfold SubQ.ok at h
  rw [if_neg hx] at h
  obtain ⟨_, h⟩ := h
  have h := h h0
  generalize x.2.2.1 = lo at *
  generalize x.2.2.2.2 = st at *
  generalize x.n = m at *
  unfold mn mx at h
  rcases Int.le_total 0 st with q | q
  · have a1 := Int.mul_le_mul_of_nonneg_right (show t ≤ m - 1 by omega) q
    have a2 := Int.mul_nonneg t0 q
    have a3 := Int.mul_nonneg (show 0 ≤ m - 1 by omega) q
    split at h <;> split at h <;> omega
  · have a1 := Int.mul_le_mul_of_nonpos_right (show t ≤ m - 1 by omega) q
    have a2 := Int.mul_nonpos_of_nonneg_of_nonpos t0 q
    have a3 := Int.mul_nonpos_of_nonneg_of_nonpos (show 0 ≤ m - 1 by omega) q
    split at h <;> split at h <;> omega
theorem n_nonneg (x : SubQ) : 0 ≤ x.n := cnt_nonneg _ _ _
/-- The elements of a cut, by their numbers. -/
theorem kap_addr : ∀ {X : List SubQ} {E S : List Int}, cutOk X E → S.length = E.length → (∀ e ∈ E, 1 ≤ e) → (∀ e ∈ cutE X, 1 ≤ e) → ∀ j, j < prN (cutE X) →
    kap X E j < prN E ∧ cutD X S + addr (cutE X) (cutS X S) j = addr E S (kap X E j)
  | [], [], S, _, hS, _, _, j, hj => by
    have : S = [] := by cases S with | nil => rfl | cons => simp at hS
    subst this
    simp [kap, prN, cutD, cutE, cutS, addr]
  | [], _ :: _, _, h, _, _, _, _, _ => h.elim
  | _ :: _, [], _, h, _, _, _, _, _ => h.elim
  | x :: X, n :: E, [], _, h, _, _, _, _ => by simp at h
  | x :: X, n :: E, s :: S, h, hS, hE, hC, j, hj => by
    have hn := hE n (by simp)
    have key : ∀ (a : Int) (k : Nat), 0 ≤ a → a ≤ n - 1 → k < prN E → (a.toNat + n.toNat * k < prN (n :: E)) ∧ addr (n :: E) (s :: S) (a.toNat + n.toNat * k) = a * s + addr E S k := by
      intro a k a0 a1 hk
      have hp : 0 < n.toNat := by omega
      refine ⟨?_, ?_⟩
      · rw [prN]
        have : n.toNat * (k + 1) ≤ n.toNat * prN E := Nat.mul_le_mul_left _ hk
        rw [Nat.mul_succ] at this
        omega
      · simp only [addr]
        have e1 : (a.toNat + n.toNat * k) % n.toNat = a.toNat := by
          rw [Nat.add_mul_mod_self_left, Nat.mod_eq_of_lt (by omega)]
        have e2 : (a.toNat + n.toNat * k) / n.toNat = k := by
          rw [Nat.add_mul_div_left _ _ hp, Nat.div_eq_of_lt (by omega)]; omega
        rw [e1, e2, Int.toNat_of_nonneg a0]
    by_cases hx : x.1 = true
    · have hxo := h.1
      unfold SubQ.ok at hxo
      rw [if_pos hx] at hxo
      have e1 : cutE (x :: X) = cutE X := by simp only [cutE, if_pos hx]
      rw [e1] at hC hj
      obtain ⟨i1, i2⟩ := kap_addr h.2 (by simpa using hS) (fun e he => hE e (by simp [he])) hC j hj
      obtain ⟨k1, k2⟩ := key x.2.1 (kap X E j) hxo.1 hxo.2 i1
      simp only [kap, if_pos hx]
      refine ⟨k1, ?_⟩
      rw [k2, ← i2]
      simp only [cutD, cutE, cutS, SubQ.at0, if_pos hx]
      omega
    · have e1 : cutE (x :: X) = x.n :: cutE X := by simp only [cutE, if_neg hx]
      rw [e1] at hC hj
      have hm := hC x.n (by simp)
      rw [prN] at hj
      have hj1 : j % x.n.toNat < x.n.toNat := Nat.mod_lt _ (by omega)
      have hj2 : j / x.n.toNat < prN (cutE X) := by
        rw [Nat.div_lt_iff_lt_mul (by omega), Nat.mul_comm]; exact hj
      obtain ⟨i1, i2⟩ := kap_addr h.2 (by simpa using hS) (fun e he => hE e (by simp [he])) (fun e he => hC e (by simp [he])) (j / x.n.toNat) hj2
      obtain ⟨t0, t1⟩ := tri_in hx h.1 (by omega) (t := ((j % x.n.toNat : Nat) : Int)) (by omega) (by omega)
      obtain ⟨k1, k2⟩ := key _ (kap X E (j / x.n.toNat)) t0 t1 i1
      simp only [kap, if_neg hx]
      refine ⟨k1, ?_⟩
      rw [k2, ← i2]
      simp only [cutD, cutE, cutS, SubQ.at0, if_neg hx, addr]
      rw [if_pos (show 0 < x.n by omega)]
      have e3 : ((j % x.n.toNat : Nat) : Int) * x.way s = ((j % x.n.toNat : Nat) : Int) * x.2.2.2.2 * s := by
        unfold SubQ.way
        by_cases c : 1 < x.n
        · rw [if_pos c, Int.mul_comm s, Int.mul_assoc]
        · have : x.n.toNat = 1 := by omega
          rw [this, Nat.mod_one]; simp
      rw [e3, Int.add_mul]
      omega
end Go.Proofs.YtnbijiopcgfmfaaGreat.Tev
/- Cuts of descriptors are descriptors; whole arrays. -/
namespace Go.Proofs.YtnbijiopcgfmfaaGreat.Tev
open Go Go.RowKit Go.Proofs Go.Proofs.YtnbijiopcgfmfaaGreat.Q
set_option linter.unusedSectionVars false
set_option linter.unusedVariables false
set_option linter.unusedSimpArgs false
theorem mul_in {s p q A : Int} (h1 : -q ≤ p) (h2 : p ≤ q) (h3 : -A ≤ s * q) (h4 : s * q ≤ A) : -A ≤ s * p ∧ s * p ≤ A := by
  rcases Int.le_total 0 s with h | h
  · have a1 := Int.mul_le_mul_of_nonneg_left h2 h
    have a2 := Int.mul_le_mul_of_nonneg_left h1 h
    rw [Int.mul_neg] at a2
    omega
  · have a1 := Int.mul_le_mul_of_nonpos_left h h2
    have a2 := Int.mul_le_mul_of_nonpos_left h h1
    rw [Int.mul_neg] at a2
    omega
theorem mul_btw {s p q : Int} (h1 : 0 ≤ p) (h2 : p ≤ q) : mn (s * q) 0 ≤ s * p ∧ s * p ≤ mx (s * q) 0 := by
  unfold mn mx
  rcases Int.le_total 0 s with h | h
  · have a1 := Int.mul_le_mul_of_nonneg_left h2 h
    have a2 := Int.mul_nonneg h h1
    split <;> split <;> omega
  · have a1 := Int.mul_le_mul_of_nonpos_left h h2
    have a2 := Int.mul_nonpos_of_nonpos_of_nonneg h h1
    split <;> split <;> omega
def tame : List Int → List Int → Prop
  | n :: E, s :: S => (-16000000 ≤ s ∧ s ≤ 16000000) ∧ (1 ≤ n → -16000000 ≤ s * (n - 1) ∧ s * (n - 1) ≤ 16000000) ∧ tame E S
  | _, _ => True
/-- A triple that fits. -/
theorem tri_fit {x : SubQ} {n : Int} (hx : ¬ x.1 = true) (h : x.ok n) (h0 : 0 < x.n) : x.n ≤ n ∧ (0 ≤ x.2.2.1 ∧ x.2.2.1 ≤ n - 1) ∧ (0 ≤ x.2.2.1 + (x.n - 1) * x.2.2.2.2 ∧ x.2.2.1 + (x.n - 1) * x.2.2.2.2 ≤ n - 1) ∧
    (-(n - 1) ≤ (x.n - 1) * x.2.2.2.2 ∧ (x.n - 1) * x.2.2.2.2 ≤ n - 1) ∧ (1 < x.n → -(n - 1) ≤ x.2.2.2.2 ∧ x.2.2.2.2 ≤ n - 1) := by
  obtain ⟨a1, a2⟩ := tri_in hx h h0 (t := 0) (by omega) h0
  obtain ⟨a3, a4⟩ := tri_in hx h h0 (t := x.n - 1) (by omega) (by omega)
  have hst : x.2.2.2.2 ≠ 0 := by
    unfold SubQ.ok at h
    rw [if_neg hx] at h
    exact h.1.2.2.2
  rw [Int.zero_mul] at a1 a2
  generalize x.2.2.1 = lo at *
  generalize x.2.2.2.2 = st at *
  generalize x.n = m at *
  have b1 : m - 1 ≤ n - 1 ∧ (1 < m → -(n - 1) ≤ st ∧ st ≤ n - 1) := by
    rcases Int.lt_trichotomy st 0 with q | q | q
    · have c1 := Int.mul_le_mul_of_nonneg_left (show st ≤ -1 by omega) (show 0 ≤ m - 1 by omega)
      rw [Int.mul_neg, Int.mul_one] at c1
      refine ⟨by omega, fun hm => ?_⟩
      have c2 := Int.mul_le_mul_of_nonpos_right (show 1 ≤ m - 1 by omega) (show st ≤ 0 by omega)
      omega
    · exact absurd q hst
    · have c1 := Int.mul_le_mul_of_nonneg_left (show 1 ≤ st by omega) (show 0 ≤ m - 1 by omega)
      rw [Int.mul_one] at c1
      refine ⟨by omega, fun hm => ?_⟩
      have c2 := Int.mul_le_mul_of_nonneg_right (show 1 ≤ m - 1 by omega) (show 0 ≤ st by omega)
      omega
  exact ⟨by omega, by omega, by omega, by omega, b1.2⟩
theorem cutS_len : ∀ {X : List SubQ} {S : List Int}, S.length = X.length → (cutS X S).length = (cutE X).length
  | [], _, _ => by simp [cutS, cutE]
  | x :: X, [], h => by simp at h
  | x :: X, s :: S, h => by
    simp only [cutS, cutE]
    split
    · exact cutS_len (by simpa using h)
    · simp [cutS_len (X := X) (S := S) (by simpa using h)]
theorem cutE_len : ∀ (X : List SubQ), (cutE X).length ≤ X.length
  | [] => by simp [cutE]
  | x :: X => by
    have := cutE_len X
    simp only [cutE]
    split <;> simp <;> omega
theorem cut_exts : ∀ {X : List SubQ} {E : List Int}, cutOk X E → (∀ e ∈ E, 0 ≤ e ∧ e ≤ 4000) → (∀ e ∈ cutE X, 0 ≤ e ∧ e ≤ 4000) ∧ 0 ≤ pr (cutE X) ∧ pr (cutE X) ≤ pr E
  | [], [], _, _ => by simp [cutE, pr]
  | [], _ :: _, h, _ => h.elim
  | _ :: _, [], h, _ => h.elim
  | x :: X, n :: E, h, hE => by
    obtain ⟨i1, i2, i3⟩ := cut_exts h.2 (fun e he => hE e (by simp [he]))
    obtain ⟨n0, n1⟩ := hE n (by simp)
    have hx := h.1
    by_cases c : x.1 = true
    · unfold SubQ.ok at hx
      rw [if_pos c] at hx
      simp only [cutE, if_pos c, pr]
      refine ⟨i1, i2, ?_⟩
      have := Int.mul_le_mul_of_nonneg_right (show 1 ≤ n by omega) (show 0 ≤ pr E by omega)
      omega
    · have hm := n_nonneg x
      have hm2 : x.n ≤ n := by
        by_cases h0 : 0 < x.n
        · exact (tri_fit c hx h0).1
        · omega
      simp only [cutE, if_neg c, pr]
      refine ⟨fun e he => ?_, Int.mul_nonneg hm i2, ?_⟩
      · rcases List.mem_cons.1 he with rfl | he
        · omega
        · exact i1 e he
      · have a1 := Int.mul_le_mul_of_nonneg_right hm2 i2
        have a2 := Int.mul_le_mul_of_nonneg_left i3 n0
        omega
theorem cut_tame : ∀ {X : List SubQ} {E S : List Int}, cutOk X E → tame E S → tame (cutE X) (cutS X S)
  | [], _, _, _, _ => by simp [cutE, tame]
  | _ :: _, [], _, h, _ => h.elim
  | x :: X, n :: E, [], h, _ => by
    simp only [cutS]
    cases cutE (x :: X) <;> simp [tame]
  | x :: X, n :: E, s :: S, h, ht => by
    obtain ⟨t1, t2, t3⟩ := ht
    have ih := cut_tame h.2 t3
    by_cases c : x.1 = true
    · simp only [cutE, cutS, if_pos c]; exact ih
    · simp only [cutE, cutS, if_neg c, tame]
      by_cases h0 : 0 < x.n
      · obtain ⟨a1, a2, a3, a4, a5⟩ := tri_fit c h.1 h0
        have t2 := t2 (by omega)
        by_cases h1 : 1 < x.n
        · have a5 := a5 h1
          unfold SubQ.way
          rw [if_pos h1]
          refine ⟨mul_in (by omega) a5.2 t2.1 t2.2, fun _ => ?_, ih⟩
          rw [Int.mul_assoc, Int.mul_comm x.2.2.2.2]
          exact mul_in (by omega) a4.2 t2.1 t2.2
        · have e : x.n = 1 := by omega
          unfold SubQ.way
          rw [if_neg h1, e]
          exact ⟨t1, fun _ => by simp, ih⟩
      · unfold SubQ.way
        rw [if_neg (show ¬ 1 < x.n by omega)]
        exact ⟨t1, fun q => absurd q (by omega), ih⟩
theorem cut_ends : ∀ {X : List SubQ} {E S : List Int}, cutOk X E → S.length = E.length → (∀ e ∈ E, 1 ≤ e) → lows E S ≤ cutD X S ∧ cutD X S ≤ highs E S ∧
    ((∀ e ∈ cutE X, 1 ≤ e) → lows E S ≤ cutD X S + lows (cutE X) (cutS X S) ∧ cutD X S + highs (cutE X) (cutS X S) ≤ highs E S)
  | [], [], S, _, hS, _ => by
    have : S = [] := by cases S with | nil => rfl | cons => simp at hS
    subst this
    simp [lows, highs, cutD, cutE, cutS]
  | [], _ :: _, _, h, _, _ => h.elim
  | _ :: _, [], _, h, _, _ => h.elim
  | x :: X, n :: E, [], _, h, _ => by simp at h
  | x :: X, n :: E, s :: S, h, hS, hE => by
    obtain ⟨i1, i2, i3⟩ := cut_ends h.2 (S := S) (by simpa using hS) (fun e he => hE e (by simp [he]))
    have hn := hE n (by simp)
    have hx := h.1
    by_cases c : x.1 = true
    · unfold SubQ.ok at hx
      rw [if_pos c] at hx
      obtain ⟨b1, b2⟩ := mul_btw (s := s) hx.1 hx.2
      simp only [lows, highs, cutD, cutE, cutS, SubQ.at0, if_pos c]
      rw [Int.mul_comm x.2.1]
      refine ⟨by omega, by omega, fun hc => ?_⟩
      have := i3 hc
      omega
    · by_cases h0 : 0 < x.n
      · obtain ⟨a1, a2, a3, a4, a5⟩ := tri_fit c hx h0
        obtain ⟨b1, b2⟩ := mul_btw (s := s) a2.1 a2.2
        obtain ⟨b3, b4⟩ := mul_btw (s := s) a3.1 a3.2
        have hw : x.way s * (x.n - 1) = s * ((x.n - 1) * x.2.2.2.2) := by
          unfold SubQ.way
          by_cases h1 : 1 < x.n
          · rw [if_pos h1, Int.mul_assoc, Int.mul_comm x.2.2.2.2]
          · have e : x.n = 1 := by omega
            rw [e]; simp
        rw [Int.mul_add] at b3 b4
        simp only [lows, highs, cutD, cutE, cutS, SubQ.at0, if_neg c, if_pos h0]
        rw [Int.mul_comm x.2.2.1, hw]
        refine ⟨by omega, by omega, fun hc => ?_⟩
        have := i3 fun e he => hc e (by simp [he])
        have m1 : mn (s * ((x.n - 1) * x.2.2.2.2)) 0 = s * ((x.n - 1) * x.2.2.2.2) ∨ mn (s * ((x.n - 1) * x.2.2.2.2)) 0 = 0 := by unfold mn; split <;> simp
        have m2 : mx (s * ((x.n - 1) * x.2.2.2.2)) 0 = s * ((x.n - 1) * x.2.2.2.2) ∨ mx (s * ((x.n - 1) * x.2.2.2.2)) 0 = 0 := by unfold mx; split <;> simp
        omega
      · have b1 : mn (s * (n - 1)) 0 ≤ 0 ∧ 0 ≤ mx (s * (n - 1)) 0 := by unfold mn mx; split <;> split <;> omega
        simp only [lows, highs, cutD, cutE, cutS, SubQ.at0, if_neg c, if_neg h0]
        rw [Int.zero_mul]
        refine ⟨by omega, by omega, fun hc => ?_⟩
        have := hc x.n (by simp)
        omega
def cutB (b : Int) (X : List SubQ) (E S : List Int) : Int := if pr E = 0 then b else b + cutD X S
theorem cut_ok {b : Int} {E S : List Int} {X : List SubQ} (h : okD b E S) (ht : tame E S) (hc : cutOk X E) : okD (cutB b X E S) (cutE X) (cutS X S) ∧ tame (cutE X) (cutS X S) := by
  obtain ⟨⟨h1, h2⟩, h3, h4, h5, h6, h7⟩ := h
  obtain ⟨c1, c2, c3⟩ := cut_exts hc h2
  have ct := cut_tame hc ht
  have hX := cutOk_len hc
  have hl := cutE_len X
  have hS : (cutS X S).length = (cutE X).length := cutS_len (by omega)
  have near : ∀ {E S : List Int}, tame E S → S.length = E.length → ∀ s ∈ S, nearS s := by
    intro E
    induction E with
    | nil => intro S _ h s hs; cases S with | nil => simp at hs | cons => simp at h
    | cons n E ih =>
      intro S ht h s hs
      cases S with
      | nil => simp at h
      | cons t S =>
        rcases List.mem_cons.1 hs with rfl | hs
        · unfold nearS; have := ht.1; omega
        · exact ih ht.2.2 (by simpa using h) s hs
  refine ⟨⟨⟨by omega, c1⟩, by omega, hS, ?_, near ct hS, ?_⟩, ct⟩
  · unfold cutB
    by_cases hp : pr E = 0
    · rw [if_pos hp]; exact h5
    · rw [if_neg hp]
      obtain ⟨e1, e2, _⟩ := cut_ends hc h4 (exts_pos ⟨h1, h2⟩ hp)
      rcases h7 with q | q
      · exact absurd q hp
      · omega
  · by_cases hp' : pr (cutE X) = 0
    · exact .inl hp'
    · right
      have hp : pr E ≠ 0 := by omega
      obtain ⟨e1, e2, e3⟩ := cut_ends hc h4 (exts_pos ⟨h1, h2⟩ hp)
      have e3 := e3 (exts_pos ⟨by omega, c1⟩ hp')
      unfold cutB
      rw [if_neg hp]
      rcases h7 with q | q
      · exact absurd q hp
      · refine ⟨?_, by omega, by omega⟩
        have : 0 ≤ highs (cutE X) (cutS X S) := by
          have : ∀ (E S : List Int), 0 ≤ highs E S := by
            intro E
            induction E with
            | nil => intro S; simp [highs]
            | cons n E ih =>
              intro S
              cases S with
              | nil => simp [highs]
              | cons s S => have := ih S; simp only [highs]; unfold mx; split <;> omega
          exact this _ _
        omega
/-! Whole arrays. -/
theorem whole_addr : ∀ (E : List Int) (a : Int) (k : Nat), (∀ e ∈ E, 1 ≤ e) → k < prN E → addr E (wholeS a E) k = a * k
  | [], a, k, _, hk => by
    have : k = 0 := by simpa [prN] using hk
    subst this; simp [addr]
  | n :: E, a, k, hE, hk => by
    have hn := hE n (by simp)
    rw [prN] at hk
    have h2 : k / n.toNat < prN E := by rw [Nat.div_lt_iff_lt_mul (by omega), Nat.mul_comm]; exact hk
    simp only [wholeS, addr]
    rw [whole_addr E (a * n) (k / n.toNat) (fun e he => hE e (by simp [he])) h2]
    have h3 := Nat.div_add_mod k n.toNat
    have h4 : (k : Int) = n * ((k / n.toNat : Nat) : Int) + ((k % n.toNat : Nat) : Int) := by
      have h5 : (((n.toNat * (k / n.toNat) + k % n.toNat : Nat)) : Int) = k := by rw [h3]
      rw [Int.natCast_add, Int.natCast_mul, Int.toNat_of_nonneg (by omega)] at h5
      exact h5.symm
    have h6 : a * (k : Int) = a * n * ((k / n.toNat : Nat) : Int) + a * ((k % n.toNat : Nat) : Int) := by
      rw [h4, Int.mul_add, Int.mul_assoc]
    rw [h6, Int.mul_comm a ((k % n.toNat : Nat) : Int)]
    omega
theorem whole_tame : ∀ (E : List Int) (a : Int), 0 ≤ a → (∀ e ∈ E, 0 ≤ e ∧ e ≤ 4000) → a * pr E ≤ 4000 → E.length ≤ 3 → (E.length = 3 → a ≤ 1) → (E.length = 2 → a ≤ 4000) → (E.length = 1 → a ≤ 16000000) → tame E (wholeS a E)
  | [], _, _, _, _, _, _, _, _ => by simp [tame]
  | n :: E, a, h0, hE, hp, hl, l3, l2, l1 => by
    obtain ⟨n0, n1⟩ := hE n (by simp)
    simp only [List.length_cons] at hl l3 l2 l1
    have ha : a ≤ 16000000 := by omega
    have hEl : E.length = 0 ∨ E.length = 1 ∨ E.length = 2 := by omega
    have b1 : 0 ≤ a * n := Int.mul_nonneg h0 n0
    simp only [wholeS, tame]
    refine ⟨by omega, fun hn => ?_, whole_tame E (a * n) b1 (fun e he => hE e (by simp [he])) (by rw [Int.mul_assoc]; exact hp) (by omega) (fun q => by omega) (fun q => ?_) (fun q => ?_)⟩
    · have c0 := Int.mul_nonneg h0 (show 0 ≤ n - 1 by omega)
      rcases hEl with q | q | q
      · have : E = [] := List.length_eq_zero_iff.1 q
        subst this
        simp only [pr, Int.mul_one] at hp
        rw [Int.mul_sub, Int.mul_one] at c0 ⊢
        omega
      · have c1 := Int.mul_le_mul (l2 (by omega)) (show n - 1 ≤ 3999 by omega) (show 0 ≤ n - 1 by omega) (show (0 : Int) ≤ 4000 by omega)
        omega
      · have c1 := Int.mul_le_mul (l3 (by omega)) (show n - 1 ≤ 3999 by omega) (show 0 ≤ n - 1 by omega) (show (0 : Int) ≤ 1 by omega)
        omega
    · have c1 := Int.mul_le_mul (l3 (by omega)) n1 n0 (show (0 : Int) ≤ 1 by omega)
      omega
    · have c1 := Int.mul_le_mul (l2 (by omega)) n1 n0 (show (0 : Int) ≤ 4000 by omega)
      omega
theorem whole_ends : ∀ (E : List Int) (a : Int), 0 ≤ a → (∀ e ∈ E, 1 ≤ e) → lows E (wholeS a E) = 0 ∧ highs E (wholeS a E) = a * pr E - a
  | [], a, _, _ => by simp [lows, highs, pr]
  | n :: E, a, h0, hE => by
    have hn := hE n (by simp)
    obtain ⟨i1, i2⟩ := whole_ends E (a * n) (Int.mul_nonneg h0 (by omega)) (fun e he => hE e (by simp [he]))
    have c0 := Int.mul_nonneg h0 (show 0 ≤ n - 1 by omega)
    simp only [wholeS, lows, highs, i1, i2, pr]
    have e1 : mn (a * (n - 1)) 0 = 0 := by unfold mn; split <;> omega
    have e2 : mx (a * (n - 1)) 0 = a * (n - 1) := by unfold mx; split <;> omega
    rw [e1, e2, Int.mul_sub, Int.mul_one, Int.mul_assoc]
    omega
theorem whole_okD {E : List Int} (h : okE E) : okD 0 E (wholeS 1 E) ∧ tame E (wholeS 1 E) := by
  obtain ⟨⟨h1, h2⟩, h3⟩ := h
  have ht := whole_tame E 1 (by omega) h2 (by omega) h1 (by omega) (by omega) (by omega)
  have hl := wholeS_len 1 E
  refine ⟨⟨⟨h1, h2⟩, h3, hl, by omega, ?_, ?_⟩, ht⟩
  · have near : ∀ {E S : List Int}, tame E S → S.length = E.length → ∀ s ∈ S, nearS s := by
      intro E
      induction E with
      | nil => intro S _ h s hs; cases S with | nil => simp at hs | cons => simp at h
      | cons n E ih =>
        intro S ht h s hs
        cases S with
        | nil => simp at h
        | cons t S =>
          rcases List.mem_cons.1 hs with rfl | hs
          · unfold nearS; have := ht.1; omega
          · exact ih ht.2.2 (by simpa using h) s hs
    exact near ht hl
  · by_cases hp : pr E = 0
    · exact .inl hp
    · obtain ⟨e1, e2⟩ := whole_ends E 1 (by omega) (exts_pos ⟨h1, h2⟩ hp)
      right
      rw [e1, e2]
      omega
end Go.Proofs.YtnbijiopcgfmfaaGreat.Tev
/- A section of a section is one of its elements. -/
namespace Go.Proofs.YtnbijiopcgfmfaaGreat.Tev
open Go Go.RowKit Go.Proofs Go.Proofs.YtnbijiopcgfmfaaGreat.Q
set_option linter.unusedSectionVars false
set_option linter.unusedVariables false
set_option linter.unusedSimpArgs false
theorem prN_zero {E : List Int} (h : ∀ e ∈ E, 0 ≤ e) : prN E = 0 ↔ pr E = 0 := by have := prN_pr h; omega
/-- The places of a cut. -/
theorem cut_places {b : Int} {E S : List Int} {X : List SubQ} (h : okD b E S) (ht : tame E S) (hc : cutOk X E) {j : Nat} (hj : j < prN (cutE X)) :
    kap X E j < prN E ∧ (placesQ (cutB b X E S) (cutE X) (cutS X S))[j]? = some (b + addr E S (kap X E j)) := by
  obtain ⟨hk, _⟩ := cut_ok h ht hc
  have he := cut_exts hc h.1.2
  have h0 : ∀ e ∈ cutE X, 0 ≤ e := fun e he' => (he.1 e he').1
  have hp' : pr (cutE X) ≠ 0 := fun q => by rw [(prN_zero h0).2 q] at hj; omega
  have hp : pr E ≠ 0 := by omega
  obtain ⟨k1, k2⟩ := kap_addr hc h.2.2.1 (exts_pos h.1 hp) (exts_pos hk.1 hp') j hj
  refine ⟨k1, ?_⟩
  rw [places_get hk hp' j hj]
  unfold cutB
  rw [if_neg hp]
  congr 1
  omega
/-- Elements at places. -/
def picks (el l : List Int) : List Int := l.map fun p => el.getD p.toNat 0
theorem picks_len (el l : List Int) : (picks el l).length = l.length := by simp [picks]
theorem picks_get (el l : List Int) (i : Nat) : (picks el l)[i]? = (l[i]?).map fun p => el.getD p.toNat 0 := by simp [picks]
abbrev cB (X : List SubQ) (sh : List Int) : Int := cutB 0 X sh (wholeS 1 sh)
abbrev cS (X : List SubQ) (sh : List Int) : List Int := cutS X (wholeS 1 sh)
theorem whole_cut {sh : List Int} {X : List SubQ} (h : okE sh) (hc : cutOk X sh) : okD (cB X sh) (cutE X) (cS X sh) ∧ tame (cutE X) (cS X sh) := cut_ok (whole_okD h).1 (whole_okD h).2 hc
/-- The places of a cut of a whole array. -/
theorem whole_places {sh : List Int} {X : List SubQ} (h : okE sh) (hc : cutOk X sh) {j : Nat} (hj : j < prN (cutE X)) : kap X sh j < prN sh ∧ (placesQ (cB X sh) (cutE X) (cS X sh))[j]? = some ((kap X sh j : Nat) : Int) := by
  obtain ⟨h1, h2⟩ := cut_places (whole_okD h).1 (whole_okD h).2 hc hj
  refine ⟨h1, ?_⟩
  rw [h2]
  have he := cut_exts hc h.1.2
  have hp : pr sh ≠ 0 := fun q => by rw [(prN_zero fun e he => (h.1.2 e he).1).2 q] at h1; omega
  rw [whole_addr sh 1 _ (exts_pos h.1 hp) h1]
  congr 1
  omega
theorem whole_in {sh : List Int} {X : List SubQ} (h : okE sh) (hc : cutOk X sh) {p : Int} (hp : p ∈ placesQ (cB X sh) (cutE X) (cS X sh)) : 0 ≤ p ∧ p < prN sh := by
  obtain ⟨j, hj⟩ := List.getElem?_of_mem hp
  have hl := places_len (whole_cut h hc).1
  have hj2 : j < prN (cutE X) := by
    rw [← hl]
    rcases Nat.lt_or_ge j (placesQ (cB X sh) (cutE X) (cS X sh)).length with q | q
    · exact q
    · rw [List.getElem?_eq_none q] at hj; cases hj
  obtain ⟨h1, h2⟩ := whole_places h hc hj2
  rw [h2] at hj
  obtain rfl := Option.some.inj hj
  omega
/-- The law. -/
theorem sub_sub {sh : List Int} {X Y : List SubQ} (el : List Int) (h : okE sh) (hX : cutOk X sh) (hY : cutOk Y (cutE X)) :
    picks el (placesQ (cutB (cB X sh) Y (cutE X) (cS X sh)) (cutE Y) (cutS Y (cS X sh))) = picks (picks el (placesQ (cB X sh) (cutE X) (cS X sh))) (placesQ (cB Y (cutE X)) (cutE Y) (cS Y (cutE X))) := by
  obtain ⟨d1, d2⟩ := whole_cut h hX
  have hE : okE (cutE X) := ⟨d1.1, d1.2.1⟩
  obtain ⟨g1, _⟩ := cut_ok d1 d2 hY
  obtain ⟨w1, _⟩ := whole_cut hE hY
  have l1 := places_len g1
  have l2 := places_len w1
  apply List.ext_getElem?
  intro j
  rw [picks_get, picks_get]
  by_cases hj : j < prN (cutE Y)
  · obtain ⟨a1, a2⟩ := cut_places d1 d2 hY hj
    obtain ⟨b1, b2⟩ := whole_places hE hY hj
    rw [a2, b2]
    simp only [Option.map_some, Int.toNat_natCast]
    congr 1
    have hp : pr (cutE X) ≠ 0 := fun q => by rw [(prN_zero fun e he => (hE.1.2 e he).1).2 q] at a1; omega
    rw [List.getD_eq_getElem?_getD (l := picks el _), picks_get, places_get d1 hp _ a1]
    rfl
  · rw [List.getElem?_eq_none (by omega), List.getElem?_eq_none (by omega)]
    rfl
end Go.Proofs.YtnbijiopcgfmfaaGreat.Tev
/- Arrays: how many elements a shape has, which arrays are valid. -/
namespace Go.Proofs.YtnbijiopcgfmfaaGreat.Tev
open Go Go.RowKit Go.Proofs Go.Proofs.YtnbijiopcgfmfaaGreat.Q
set_option linter.unusedSectionVars false
set_option maxRecDepth 100000
set_option maxHeartbeats 0
set_option linter.unusedSimpArgs false
set_option linter.unusedVariables false
theorem a_size (b : Bool) (c : Option Nat) (E : List Int) (hE : (E.length : Int) ≤ 9223372036854775806) : CALL 13 [SL b c E.length (ints E)] = some (I (sizeQ E), []) := by
  have hW := c_Whole b c E hE
  by_cases h : okE E
  · rw [show wholeE E = E from if_pos h, show wholeT E = wholeS 1 E from if_pos h, show errE E = 0 from if_pos h] at hW
    have hd := (whole_okD h).1
    have hS := fun b c b' c' => c_Size 0 b b' c c' E (wholeS 1 E) hE (by rw [wholeS_len]; exact hE)
    have e1 : sizeD 0 E (wholeS 1 E) = sizeQ E := by unfold sizeD; rw [if_pos hd, show sizeQ E = pr E from if_pos h]
    rw [e1] at hS
    refine lim_run (fn := Tryz.f13) fn13 rfl body13 (Nat.le_of_ble_eq_true rfl) ok13 ?_
    simp (config := { maxSteps := 1000000 }) (disch := omega) only [push_cast, ↓reduceIte, Nat.reduceEqDiff, Nat.reduceAdd, Nat.reduceLT, Nat.reduceLeDiff, Nat.reduceBEq, Nat.reduceMul, Nat.reduceSub, Int.reduceToNat, Int.reduceEq, Int.reduceLT, Int.reduceLE, Int.reduceNeg, Int.reduceAdd, Int.reduceSub, Int.reduceMul, Tryz.f13, kr13, ty3, ty22, ty31, hW, hS, ne_eq]
  · rw [show errE E = 2 from if_neg h] at hW
    rw [show sizeQ E = -1 from if_neg h]
    refine lim_run (fn := Tryz.f13) fn13 rfl body13 (Nat.le_of_ble_eq_true rfl) ok13 ?_
    simp (config := { maxSteps := 1000000 }) (disch := omega) only [push_cast, ↓reduceIte, Nat.reduceEqDiff, Nat.reduceAdd, Nat.reduceLT, Nat.reduceLeDiff, Nat.reduceBEq, Nat.reduceMul, Nat.reduceSub, Int.reduceToNat, Int.reduceEq, Int.reduceLT, Int.reduceLE, Int.reduceNeg, Int.reduceAdd, Int.reduceSub, Int.reduceMul, Tryz.f13, kr13, ty3, ty22, ty31, hW, ne_eq]
/-- An array as an argument. -/
abbrev Ar (k : Int) (b1 : Bool) (c1 : Option Nat) (sh : List Int) (b2 : Bool) (c2 : Option Nat) (el : List Int) : T := .agg [I k, SL b1 c1 sh.length (ints sh), SL b2 c2 el.length (ints el)]
abbrev ArU (k : Int) (b1 : Bool) (c1 : Option Nat) (sh : List Int) (b2 : Bool) (c2 : Option Nat) (el : List Int) : T := .rb [.c (CI k), US b1 c1 sh.length (ints sh), US b2 c2 el.length (ints el)] 0
def okA (k : Int) (sh el : List Int) : Prop := (1 ≤ k ∧ k ≤ 4) ∧ sizeQ sh = el.length ∧ ∀ n ∈ el, fitsQ k n
instance (k : Int) (sh el : List Int) : Decidable (okA k sh el) := by unfold okA; infer_instance
section
variable (k : Int) (b1 b2 : Bool) (c1 c2 : Option Nat) (sh el : List Int)
theorem a_Valid1 (n : Int) : CALL 15 [I n, ArU k b1 c1 sh b2 c2 el] = some (B (decide (¬ fitsQ k n)), []) := by
  have h := a_fits k n
  by_cases c : fitsQ k n
  · rw [decide_eq_true c] at h
    rw [decide_eq_false (show ¬ ¬ fitsQ k n from fun q => q c)]
    refine lim_run (fn := Tryz.f15) fn15 rfl body15 (Nat.le_of_ble_eq_true rfl) ok15 ?_
    simp (config := { maxSteps := 1000000 }) (disch := omega) only [push_cast, ↓reduceIte, Nat.reduceEqDiff, Nat.reduceAdd, Nat.reduceLT, Nat.reduceLeDiff, Nat.reduceBEq, Nat.reduceMul, Nat.reduceSub, Int.reduceToNat, Int.reduceEq, Int.reduceLT, Int.reduceLE, Int.reduceNeg, Int.reduceAdd, Int.reduceSub, Int.reduceMul, Tryz.f15, kr15, ty3, ty4, ty22, ty24, tb4, h]
  · rw [decide_eq_false c] at h
    rw [decide_eq_true c]
    refine lim_run (fn := Tryz.f15) fn15 rfl body15 (Nat.le_of_ble_eq_true rfl) ok15 ?_
    simp (config := { maxSteps := 1000000 }) (disch := omega) only [push_cast, ↓reduceIte, Nat.reduceEqDiff, Nat.reduceAdd, Nat.reduceLT, Nat.reduceLeDiff, Nat.reduceBEq, Nat.reduceMul, Nat.reduceSub, Int.reduceToNat, Int.reduceEq, Int.reduceLT, Int.reduceLE, Int.reduceNeg, Int.reduceAdd, Int.reduceSub, Int.reduceMul, Tryz.f15, kr15, ty3, ty4, ty22, ty24, tb4, h]
theorem a_Valid (hs : (sh.length : Int) ≤ 9223372036854775806) (he : (el.length : Int) ≤ 9223372036854775806) : CALL 4 [Ar k b1 c1 sh b2 c2 el] = some (B (decide (okA k sh el)), []) := by
  have h1 := fun b c => a_size b c sh hs
  have h2 := c_ContainsFunc 15 [ArU k b1 c1 sh b2 c2 el] _ (a_Valid1 k b1 b2 c1 c2 sh el) (shut_rb _ _) b2 c2 el he
  by_cases q1 : 1 ≤ k
  · by_cases q2 : k ≤ 4
    · by_cases q3 : sizeQ sh = el.length
      · by_cases q4 : (el.any fun n => decide (¬ fitsQ k n)) = true
        · rw [decide_eq_false (show ¬ okA k sh el from fun h => by
            obtain ⟨n, hn, hf⟩ := List.any_eq_true.1 q4
            exact (of_decide_eq_true hf) (h.2.2 n hn))]
          rw [q4] at h2
          refine lim_run (fn := Tryz.f4) fn4 rfl body4 (Nat.le_of_ble_eq_true rfl) ok4 ?_
          simp (config := { maxSteps := 1000000 }) (disch := omega) only [push_cast, ↓reduceIte, Nat.reduceEqDiff, Nat.reduceAdd, Nat.reduceLT, Nat.reduceLeDiff, Nat.reduceBEq, Nat.reduceMul, Nat.reduceSub, Int.reduceToNat, Int.reduceEq, Int.reduceLT, Int.reduceLE, Int.reduceNeg, Int.reduceAdd, Int.reduceSub, Int.reduceMul, Tryz.f4, kr4, ty3, ty4, ty22, ty24, tb4, h1, h2, q1, q2, q3]
        · rw [decide_eq_true (show okA k sh el from ⟨⟨q1, q2⟩, q3, fun n hn => Decidable.byContradiction fun hf => q4 (List.any_eq_true.2 ⟨n, hn, decide_eq_true hf⟩)⟩)]
          rw [Bool.not_eq_true] at q4
          rw [q4] at h2
          refine lim_run (fn := Tryz.f4) fn4 rfl body4 (Nat.le_of_ble_eq_true rfl) ok4 ?_
          simp (config := { maxSteps := 1000000 }) (disch := omega) only [push_cast, ↓reduceIte, Nat.reduceEqDiff, Nat.reduceAdd, Nat.reduceLT, Nat.reduceLeDiff, Nat.reduceBEq, Nat.reduceMul, Nat.reduceSub, Int.reduceToNat, Int.reduceEq, Int.reduceLT, Int.reduceLE, Int.reduceNeg, Int.reduceAdd, Int.reduceSub, Int.reduceMul, Tryz.f4, kr4, ty3, ty4, ty22, ty24, tb4, h1, h2, q1, q2, q3]
      · rw [decide_eq_false (show ¬ okA k sh el from fun h => q3 h.2.1)]
        refine lim_run (fn := Tryz.f4) fn4 rfl body4 (Nat.le_of_ble_eq_true rfl) ok4 ?_
        simp (config := { maxSteps := 1000000 }) (disch := omega) only [push_cast, ↓reduceIte, Nat.reduceEqDiff, Nat.reduceAdd, Nat.reduceLT, Nat.reduceLeDiff, Nat.reduceBEq, Nat.reduceMul, Nat.reduceSub, Int.reduceToNat, Int.reduceEq, Int.reduceLT, Int.reduceLE, Int.reduceNeg, Int.reduceAdd, Int.reduceSub, Int.reduceMul, Tryz.f4, kr4, ty3, ty4, ty22, ty24, tb4, h1, h2, q1, q2, q3]
    · rw [decide_eq_false (show ¬ okA k sh el from fun h => q2 h.1.2)]
      refine lim_run (fn := Tryz.f4) fn4 rfl body4 (Nat.le_of_ble_eq_true rfl) ok4 ?_
      simp (config := { maxSteps := 1000000 }) (disch := omega) only [push_cast, ↓reduceIte, Nat.reduceEqDiff, Nat.reduceAdd, Nat.reduceLT, Nat.reduceLeDiff, Nat.reduceBEq, Nat.reduceMul, Nat.reduceSub, Int.reduceToNat, Int.reduceEq, Int.reduceLT, Int.reduceLE, Int.reduceNeg, Int.reduceAdd, Int.reduceSub, Int.reduceMul, Tryz.f4, kr4, ty3, ty4, ty22, ty24, tb4, q1, q2]
  · rw [decide_eq_false (show ¬ okA k sh el from fun h => q1 h.1.1)]
    refine lim_run (fn := Tryz.f4) fn4 rfl body4 (Nat.le_of_ble_eq_true rfl) ok4 ?_
    simp (config := { maxSteps := 1000000 }) (disch := omega) only [push_cast, ↓reduceIte, Nat.reduceEqDiff, Nat.reduceAdd, Nat.reduceLT, Nat.reduceLeDiff, Nat.reduceBEq, Nat.reduceMul, Nat.reduceSub, Int.reduceToNat, Int.reduceEq, Int.reduceLT, Int.reduceLE, Int.reduceNeg, Int.reduceAdd, Int.reduceSub, Int.reduceMul, Tryz.f4, kr4, ty3, ty4, ty22, ty24, tb4, q1]
theorem a_isScalar (hs : (sh.length : Int) ≤ 9223372036854775806) : CALL 43 [Ar k b1 c1 sh b2 c2 el] = some (B (decide ((sh.length : Int) = 0)), []) := by
  refine lim_run (fn := Tryz.f43) fn43 rfl body43 (Nat.le_of_ble_eq_true rfl) ok43 ?_
  simp (config := { maxSteps := 1000000 }) (disch := omega) only [push_cast, ↓reduceIte, Nat.reduceEqDiff, Nat.reduceAdd, Nat.reduceLT, Nat.reduceLeDiff, Nat.reduceBEq, Nat.reduceMul, Nat.reduceSub, Int.reduceToNat, Int.reduceEq, Int.reduceLT, Int.reduceLE, Int.reduceNeg, Int.reduceAdd, Int.reduceSub, Int.reduceMul, Tryz.f43, kr43, ty3, ty4, ty22, ty24, tb4]
/-- The element of an array that an operation takes. -/
def elAt (sh el : List Int) (i : Nat) : Option Int := if sh.length = 0 then el[0]? else el[i]?
theorem a_at (hs : (sh.length : Int) ≤ 9223372036854775806) (he : (el.length : Int) ≤ 9223372036854775806) (i : Nat) (x : Int) (h : elAt sh el i = some x) : CALL 24 [Ar k b1 c1 sh b2 c2 el, I i] = some (Vl k x, []) := by
  have h1 := fun b1 c1 b2 c2 => a_isScalar k b1 b2 c1 c2 sh el hs
  unfold elAt at h
  by_cases c : sh.length = 0
  · rw [if_pos c] at h
    have c' : (sh.length : Int) = 0 := by omega
    have hl : 0 < el.length := by rcases Nat.eq_zero_or_pos el.length with q | q; rw [List.length_eq_zero_iff.1 q] at h; simp at h; exact q
    have hl' : (0 : Int) < el.length := by omega
    refine lim_run (fn := Tryz.f24) fn24 rfl body24 (Nat.le_of_ble_eq_true rfl) ok24 ?_
    simp (config := { maxSteps := 1000000 }) (disch := omega) only [push_cast, ↓reduceIte, Nat.reduceEqDiff, Nat.reduceAdd, Nat.reduceLT, Nat.reduceLeDiff, Nat.reduceBEq, Nat.reduceMul, Nat.reduceSub, Int.reduceToNat, Int.reduceEq, Int.reduceLT, Int.reduceLE, Int.reduceNeg, Int.reduceAdd, Int.reduceSub, Int.reduceMul, Tryz.f24, kr24, ty3, ty22, ty24, ty38, h1, c', hl, hl', getD_of h]
  · rw [if_neg c] at h
    have c' : ¬ (sh.length : Int) = 0 := by omega
    have hl : i < el.length := by rcases Nat.lt_or_ge i el.length with q | q; exact q; rw [List.getElem?_eq_none q] at h; cases h
    have hl' : (i : Int) < el.length := by omega
    refine lim_run (fn := Tryz.f24) fn24 rfl body24 (Nat.le_of_ble_eq_true rfl) ok24 ?_
    simp (config := { maxSteps := 1000000 }) (disch := omega) only [push_cast, ↓reduceIte, Nat.reduceEqDiff, Nat.reduceAdd, Nat.reduceLT, Nat.reduceLeDiff, Nat.reduceBEq, Nat.reduceMul, Nat.reduceSub, Int.reduceToNat, Int.reduceEq, Int.reduceLT, Int.reduceLE, Int.reduceNeg, Int.reduceAdd, Int.reduceSub, Int.reduceMul, Tryz.f24, kr24, ty3, ty22, ty24, ty38, h1, c', hl, hl', getD_of h]
end
end Go.Proofs.YtnbijiopcgfmfaaGreat.Tev
