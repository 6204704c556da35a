/- What the guard's functions return. -/
import Derived.Test.YtopnopepcpepbaaCSlc
import Derived.Test.YtopnopepcpepbaaCCnt
import Derived.Test.YtopnopepcpepbaaQGd
namespace Go.Proofs.Ytopnopepcpepbaa.Tev
open Go Go.RowKit Go.Proofs Go.Proofs.Ytopnopepcpepbaa.Q
set_option linter.unusedSectionVars false
set_option maxRecDepth 100000
set_option maxHeartbeats 0
set_option linter.unusedSimpArgs false
set_option linter.unusedVariables false
abbrev Tri (lo hi st : Int) : T := .agg [I lo, I hi, I st]
theorem c_isNum1 (n : Int) : CALL 45 [I n] = some (B (decide (¬ near n)), []) := by
  refine lim_run (fn := Try.f45) fn45 rfl body45 (Nat.le_of_ble_eq_true rfl) ok45 ?_
  simp (config := { maxSteps := 1000000 }) (disch := omega) only [push_cast, ↓reduceIte, Nat.reduceEqDiff, Nat.reduceAdd, Nat.reduceLT, Nat.reduceLeDiff, Nat.reduceBEq, Nat.reduceMul, Nat.reduceSub, Int.reduceToNat, Int.reduceEq, Int.reduceLT, Int.reduceLE, Int.reduceNeg, Int.reduceAdd, Int.reduceSub, Int.reduceMul, Try.f45, kr45, ty4, tb4]
  unfold near
  by_cases h1 : n < -1000000
  · rw [decide_eq_true (p := ¬ _) (fun h => by omega)]
    simp [h1]
  · by_cases h2 : 1000000 < n
    · rw [decide_eq_true (p := ¬ _) (fun h => by omega)]
      simp [h1, h2]
    · rw [decide_eq_false (p := ¬ _) (fun h => h ⟨by omega, by omega⟩)]
      simp [h1, h2]
theorem any_near1 (l : List Int) : (l.any fun n => decide (¬ near n)) = decide (¬ allN l) := by
  unfold allN
  rw [Bool.eq_iff_iff]
  simp
theorem c_isNumber1 (b : Bool) (c : Option Nat) (l : List Int) (hl : (l.length : Int) ≤ 9223372036854775806) : CALL 37 [SL b c l.length (ints l)] = some (B (decide (allN l)), []) := by
  have h := c_ContainsFunc 45 [] _ c_isNum1 shut_nil b c l hl
  rw [any_near1] at h
  refine lim_run (fn := Try.f37) fn37 rfl body37 (Nat.le_of_ble_eq_true rfl) ok37 ?_
  simp (config := { maxSteps := 1000000 }) (disch := omega) only [push_cast, ↓reduceIte, Nat.reduceEqDiff, Nat.reduceAdd, Nat.reduceLT, Nat.reduceLeDiff, Nat.reduceBEq, Nat.reduceMul, Nat.reduceSub, Int.reduceToNat, Int.reduceEq, Int.reduceLT, Int.reduceLE, Int.reduceNeg, Int.reduceAdd, Int.reduceSub, Int.reduceMul, Try.f37, kr37, ty4, tb4, h]
  by_cases h : allN l <;> simp [h]
theorem ints_3 (x y z : Int) : ints [x, y, z] = [CI x, CI y, CI z] := rfl
theorem ints_2 (x y : Int) : ints [x, y] = [CI x, CI y] := rfl
theorem ints_4 (x y z u : Int) : ints [x, y, z, u] = [CI x, CI y, CI z, CI u] := rfl
theorem c_asked (lo hi st : Int) (b : Bool) (c : Option Nat) (l : List Int) (hl : (l.length : Int) ≤ 9223372036854775806) : CALL 29 [Tri lo hi st, SL b c l.length (ints l)] = some (I (askE lo hi st l), []) := by
  have h1 := c_isNumber1 b c l hl
  have h2 := fun cap => c_isNumber1 false cap [lo, hi, st] (by show (3 : Int) ≤ _; omega)
  simp only [ints_3, List.length_cons, List.length_nil, Nat.zero_add, Nat.reduceAdd] at h2
  unfold askE
  refine lim_run (fn := Try.f29) fn29 rfl body29 (Nat.le_of_ble_eq_true rfl) ok29 ?_
  by_cases h0 : st = 0
  · subst h0
    simp (config := { maxSteps := 1000000 }) (disch := omega) only [push_cast, ↓reduceIte, Nat.reduceEqDiff, Nat.reduceAdd, Nat.reduceLT, Nat.reduceLeDiff, Nat.reduceBEq, Nat.reduceMul, Nat.reduceSub, Int.reduceToNat, Int.reduceEq, Int.reduceLT, Int.reduceLE, Int.reduceNeg, Int.reduceAdd, Int.reduceSub, Int.reduceMul, Try.f29, kr29, ty3, ty25, ty26, ty41]
  · by_cases h3 : allN [lo, hi, st]
    · by_cases h4 : allN l
      · simp (config := { maxSteps := 1000000 }) (disch := omega) only [push_cast, ↓reduceIte, Nat.reduceEqDiff, Nat.reduceAdd, Nat.reduceLT, Nat.reduceLeDiff, Nat.reduceBEq, Nat.reduceMul, Nat.reduceSub, Int.reduceToNat, Int.reduceEq, Int.reduceLT, Int.reduceLE, Int.reduceNeg, Int.reduceAdd, Int.reduceSub, Int.reduceMul, Try.f29, kr29, ty3, ty25, ty26, ty41, h0, h1, h2, h3, h4]
      · simp (config := { maxSteps := 1000000 }) (disch := omega) only [push_cast, ↓reduceIte, Nat.reduceEqDiff, Nat.reduceAdd, Nat.reduceLT, Nat.reduceLeDiff, Nat.reduceBEq, Nat.reduceMul, Nat.reduceSub, Int.reduceToNat, Int.reduceEq, Int.reduceLT, Int.reduceLE, Int.reduceNeg, Int.reduceAdd, Int.reduceSub, Int.reduceMul, Try.f29, kr29, ty3, ty25, ty26, ty41, h0, h1, h2, h3, h4]
    · simp (config := { maxSteps := 1000000 }) (disch := omega) only [push_cast, ↓reduceIte, Nat.reduceEqDiff, Nat.reduceAdd, Nat.reduceLT, Nat.reduceLeDiff, Nat.reduceBEq, Nat.reduceMul, Nat.reduceSub, Int.reduceToNat, Int.reduceEq, Int.reduceLT, Int.reduceLE, Int.reduceNeg, Int.reduceAdd, Int.reduceSub, Int.reduceMul, Try.f29, kr29, ty3, ty25, ty26, ty41, h0, h1, h2, h3]
theorem c_turns (lo hi st : Int) : CALL 27 [Tri lo hi st] = some (I (if okT lo hi st then cnt lo hi st else 0), []) := by
  have h := c_Count lo hi st
  refine lim_run (fn := Try.f27) fn27 rfl body27 (Nat.le_of_ble_eq_true rfl) ok27 ?_
  simp (config := { maxSteps := 1000000 }) (disch := omega) only [push_cast, ↓reduceIte, Nat.reduceEqDiff, Nat.reduceAdd, Nat.reduceLT, Nat.reduceLeDiff, Nat.reduceBEq, Nat.reduceMul, Nat.reduceSub, Int.reduceToNat, Int.reduceEq, Int.reduceLT, Int.reduceLE, Int.reduceNeg, Int.reduceAdd, Int.reduceSub, Int.reduceMul, Try.f27, kr27, ty3, ty25, h]
theorem c_floor (a b : Int) (hb : 0 < b) (h1 : -9000000000000 ≤ a) (h2 : a ≤ 9000000000000) : CALL 31 [I a, I b] = some (I (floorQ a b), []) := by
  have e : (Int.tdiv a b).natAbs ≤ a.natAbs := by rw [Int.natAbs_tdiv]; exact Nat.div_le_self _ _
  have w1 : IntKind.i64.wrap (Int.tdiv a b) = Int.tdiv a b := w64 (by omega) (by omega)
  have hb0 : ¬ b = 0 := by omega
  unfold floorQ
  refine lim_run (fn := Try.f31) fn31 rfl body31 (Nat.le_of_ble_eq_true rfl) ok31 ?_
  by_cases hneg : Int.tmod a b < 0
  · have w2 : IntKind.i64.wrap (Int.tdiv a b - 1) = Int.tdiv a b - 1 := w64 (by omega) (by omega)
    simp (config := { maxSteps := 1000000 }) (disch := omega) only [push_cast, ↓reduceIte, Nat.reduceEqDiff, Nat.reduceAdd, Nat.reduceLT, Nat.reduceLeDiff, Nat.reduceBEq, Nat.reduceMul, Nat.reduceSub, Int.reduceToNat, Int.reduceEq, Int.reduceLT, Int.reduceLE, Int.reduceNeg, Int.reduceAdd, Int.reduceSub, Int.reduceMul, Try.f31, kr31, ty3, hb0, w1, w2, hneg]
  · simp (config := { maxSteps := 1000000 }) (disch := omega) only [push_cast, ↓reduceIte, Nat.reduceEqDiff, Nat.reduceAdd, Nat.reduceLT, Nat.reduceLeDiff, Nat.reduceBEq, Nat.reduceMul, Nat.reduceSub, Int.reduceToNat, Int.reduceEq, Int.reduceLT, Int.reduceLE, Int.reduceNeg, Int.reduceAdd, Int.reduceSub, Int.reduceMul, Try.f31, kr31, ty3, hb0, w1, hneg]
theorem c_ceil (a b : Int) (hb : 0 < b) (h1 : -9000000000000 ≤ a) (h2 : a ≤ 9000000000000) : CALL 30 [I a, I b] = some (I (ceilQ a b), []) := by
  have h := c_floor (-a) b hb (by omega) (by omega)
  obtain ⟨_, _, h5, h6⟩ := floorQ_spec (a := -a) hb (by omega) (by omega)
  unfold ceilQ
  refine lim_run (fn := Try.f30) fn30 rfl body30 (Nat.le_of_ble_eq_true rfl) ok30 ?_
  simp (config := { maxSteps := 1000000 }) (disch := omega) only [push_cast, ↓reduceIte, Nat.reduceEqDiff, Nat.reduceAdd, Nat.reduceLT, Nat.reduceLeDiff, Nat.reduceBEq, Nat.reduceMul, Nat.reduceSub, Int.reduceToNat, Int.reduceEq, Int.reduceLT, Int.reduceLE, Int.reduceNeg, Int.reduceAdd, Int.reduceSub, Int.reduceMul, Try.f30, kr30, ty3, Int.zero_sub, h]
theorem askE_off {lo hi st : Int} {l : List Int} (h : ¬ askE lo hi st l = 0) : askE lo hi st l ≠ 0 := h
theorem c_Part (a b lo hi st low high : Int) : CALL 14 [I a, I b, Tri lo hi st, I low, I high] = some (.tup [I (if askE lo hi st [a, b, low, high] = 0 then (partQ a b lo st low high (cnt lo hi st)).1 else 0), I (if askE lo hi st [a, b, low, high] = 0 then (partQ a b lo st low high (cnt lo hi st)).2 else 0), I (askE lo hi st [a, b, low, high])], []) := by
  have ha := fun cap => c_asked lo hi st false cap [a, b, low, high] (by show (4 : Int) ≤ _; omega)
  simp only [ints_4, List.length_cons, List.length_nil, Nat.zero_add, Nat.reduceAdd] at ha
  have ht := c_turns lo hi st
  refine lim_run (fn := Try.f14) fn14 rfl body14 (Nat.le_of_ble_eq_true rfl) ok14 ?_
  by_cases h : askE lo hi st [a, b, low, high] = 0
  · obtain ⟨hs, n1, n2, n3, n4, n5, n6, n7⟩ := ask4 h
    have hT := okT_near hs n1 n2 n3
    have m1 := mulN n4 n1
    have m2 := mulN n4 n3
    obtain ⟨hn0, hn1⟩ := cnt_near hs n1 n2
    unfold near at n4 n5 n6 n7
    unfold partQ
    by_cases h0 : a * st = 0
    · by_cases hl : a * lo + b < low
      · simp (config := { maxSteps := 1000000 }) (disch := omega) only [push_cast, ↓reduceIte, Nat.reduceEqDiff, Nat.reduceAdd, Nat.reduceLT, Nat.reduceLeDiff, Nat.reduceBEq, Nat.reduceMul, Nat.reduceSub, Int.reduceToNat, Int.reduceEq, Int.reduceLT, Int.reduceLE, Int.reduceNeg, Int.reduceAdd, Int.reduceSub, Int.reduceMul, Try.f14, kr14, ty3, ty25, ty26, ty41, ha, ht, hT, h, h0, hl]
      · by_cases hh : high < a * lo + b
        · simp (config := { maxSteps := 1000000 }) (disch := omega) only [push_cast, ↓reduceIte, Nat.reduceEqDiff, Nat.reduceAdd, Nat.reduceLT, Nat.reduceLeDiff, Nat.reduceBEq, Nat.reduceMul, Nat.reduceSub, Int.reduceToNat, Int.reduceEq, Int.reduceLT, Int.reduceLE, Int.reduceNeg, Int.reduceAdd, Int.reduceSub, Int.reduceMul, Try.f14, kr14, ty3, ty25, ty26, ty41, ha, ht, hT, h, h0, hl, hh]
        · simp (config := { maxSteps := 1000000 }) (disch := omega) only [push_cast, ↓reduceIte, Nat.reduceEqDiff, Nat.reduceAdd, Nat.reduceLT, Nat.reduceLeDiff, Nat.reduceBEq, Nat.reduceMul, Nat.reduceSub, Int.reduceToNat, Int.reduceEq, Int.reduceLT, Int.reduceLE, Int.reduceNeg, Int.reduceAdd, Int.reduceSub, Int.reduceMul, Try.f14, kr14, ty3, ty25, ty26, ty41, ha, ht, hT, h, h0, hl, hh]
    · by_cases hneg : a * st < 0
      · have c1 := c_ceil (-high - -(a * lo + b)) (-(a * st)) (by omega) (by omega) (by omega)
        have c2 := c_floor (-low - -(a * lo + b)) (-(a * st)) (by omega) (by omega) (by omega)
        obtain ⟨_, _, f1, f2⟩ := floorQ_spec (a := -low - -(a * lo + b)) (b := -(a * st)) (by omega) (by omega) (by omega)
        unfold risQ
        by_cases hge : mn (cnt lo hi st) (floorQ (-low - -(a * lo + b)) (-(a * st)) + 1) ≤ mx 0 (ceilQ (-high - -(a * lo + b)) (-(a * st)))
        · simp (config := { maxSteps := 1000000 }) (disch := omega) only [push_cast, ↓reduceIte, Nat.reduceEqDiff, Nat.reduceAdd, Nat.reduceLT, Nat.reduceLeDiff, Nat.reduceBEq, Nat.reduceMul, Nat.reduceSub, Int.reduceToNat, Int.reduceEq, Int.reduceLT, Int.reduceLE, Int.reduceNeg, Int.reduceAdd, Int.reduceSub, Int.reduceMul, Try.f14, kr14, ty3, ty25, ty26, ty41, Int.zero_sub, ha, ht, hT, h, h0, hneg, c1, c2, hge]
        · simp (config := { maxSteps := 1000000 }) (disch := omega) only [push_cast, ↓reduceIte, Nat.reduceEqDiff, Nat.reduceAdd, Nat.reduceLT, Nat.reduceLeDiff, Nat.reduceBEq, Nat.reduceMul, Nat.reduceSub, Int.reduceToNat, Int.reduceEq, Int.reduceLT, Int.reduceLE, Int.reduceNeg, Int.reduceAdd, Int.reduceSub, Int.reduceMul, Try.f14, kr14, ty3, ty25, ty26, ty41, Int.zero_sub, ha, ht, hT, h, h0, hneg, c1, c2, hge]
      · have c1 := c_ceil (low - (a * lo + b)) (a * st) (by omega) (by omega) (by omega)
        have c2 := c_floor (high - (a * lo + b)) (a * st) (by omega) (by omega) (by omega)
        obtain ⟨_, _, f1, f2⟩ := floorQ_spec (a := high - (a * lo + b)) (b := a * st) (by omega) (by omega) (by omega)
        unfold risQ
        by_cases hge : mn (cnt lo hi st) (floorQ (high - (a * lo + b)) (a * st) + 1) ≤ mx 0 (ceilQ (low - (a * lo + b)) (a * st))
        · simp (config := { maxSteps := 1000000 }) (disch := omega) only [push_cast, ↓reduceIte, Nat.reduceEqDiff, Nat.reduceAdd, Nat.reduceLT, Nat.reduceLeDiff, Nat.reduceBEq, Nat.reduceMul, Nat.reduceSub, Int.reduceToNat, Int.reduceEq, Int.reduceLT, Int.reduceLE, Int.reduceNeg, Int.reduceAdd, Int.reduceSub, Int.reduceMul, Try.f14, kr14, ty3, ty25, ty26, ty41, Int.zero_sub, ha, ht, hT, h, h0, hneg, c1, c2, hge]
        · simp (config := { maxSteps := 1000000 }) (disch := omega) only [push_cast, ↓reduceIte, Nat.reduceEqDiff, Nat.reduceAdd, Nat.reduceLT, Nat.reduceLeDiff, Nat.reduceBEq, Nat.reduceMul, Nat.reduceSub, Int.reduceToNat, Int.reduceEq, Int.reduceLT, Int.reduceLE, Int.reduceNeg, Int.reduceAdd, Int.reduceSub, Int.reduceMul, Try.f14, kr14, ty3, ty25, ty26, ty41, Int.zero_sub, ha, ht, hT, h, h0, hneg, c1, c2, hge]
  · simp (config := { maxSteps := 1000000 }) (disch := omega) only [push_cast, ↓reduceIte, Nat.reduceEqDiff, Nat.reduceAdd, Nat.reduceLT, Nat.reduceLeDiff, Nat.reduceBEq, Nat.reduceMul, Nat.reduceSub, Int.reduceToNat, Int.reduceEq, Int.reduceLT, Int.reduceLE, Int.reduceNeg, Int.reduceAdd, Int.reduceSub, Int.reduceMul, Try.f14, kr14, ty3, ty25, ty26, ty41, ha, ht, h]
theorem c_First (a b lo hi st low high : Int) : CALL 11 [I a, I b, Tri lo hi st, I low, I high] = some (.tup [I (if askE lo hi st [a, b, low, high] = 0 then firstOf (cnt lo hi st) (partQ a b lo st low high (cnt lo hi st)).1 (partQ a b lo st low high (cnt lo hi st)).2 else 0), I (askE lo hi st [a, b, low, high])], []) := by
  have hp := c_Part a b lo hi st low high
  have ht := c_turns lo hi st
  unfold firstOf
  refine lim_run (fn := Try.f11) fn11 rfl body11 (Nat.le_of_ble_eq_true rfl) ok11 ?_
  by_cases h : askE lo hi st [a, b, low, high] = 0
  · obtain ⟨hs, n1, n2, n3, n4, n5, n6, n7⟩ := ask4 h
    have hT := okT_near hs n1 n2 n3
    generalize hq : partQ a b lo st low high (cnt lo hi st) = q at hp ⊢
    obtain ⟨f, t⟩ := q
    by_cases h1 : 0 < f
    · simp (config := { maxSteps := 1000000 }) (disch := omega) only [push_cast, ↓reduceIte, Nat.reduceEqDiff, Nat.reduceAdd, Nat.reduceLT, Nat.reduceLeDiff, Nat.reduceBEq, Nat.reduceMul, Nat.reduceSub, Int.reduceToNat, Int.reduceEq, Int.reduceLT, Int.reduceLE, Int.reduceNeg, Int.reduceAdd, Int.reduceSub, Int.reduceMul, Try.f11, kr11, ty3, ty25, ty26, hp, ht, hT, h, h1, gt_iff_lt, true_or]
    · by_cases h2 : t = 0
      · by_cases h3 : 0 < cnt lo hi st
        · simp (config := { maxSteps := 1000000 }) (disch := omega) only [push_cast, ↓reduceIte, Nat.reduceEqDiff, Nat.reduceAdd, Nat.reduceLT, Nat.reduceLeDiff, Nat.reduceBEq, Nat.reduceMul, Nat.reduceSub, Int.reduceToNat, Int.reduceEq, Int.reduceLT, Int.reduceLE, Int.reduceNeg, Int.reduceAdd, Int.reduceSub, Int.reduceMul, Try.f11, kr11, ty3, ty25, ty26, hp, ht, hT, h, h1, h2, h3, gt_iff_lt, false_or]
        · simp (config := { maxSteps := 1000000 }) (disch := omega) only [push_cast, ↓reduceIte, Nat.reduceEqDiff, Nat.reduceAdd, Nat.reduceLT, Nat.reduceLeDiff, Nat.reduceBEq, Nat.reduceMul, Nat.reduceSub, Int.reduceToNat, Int.reduceEq, Int.reduceLT, Int.reduceLE, Int.reduceNeg, Int.reduceAdd, Int.reduceSub, Int.reduceMul, Try.f11, kr11, ty3, ty25, ty26, hp, ht, hT, h, h1, h2, h3, gt_iff_lt, false_or]
      · by_cases h3 : t < cnt lo hi st
        · simp (config := { maxSteps := 1000000 }) (disch := omega) only [push_cast, ↓reduceIte, Nat.reduceEqDiff, Nat.reduceAdd, Nat.reduceLT, Nat.reduceLeDiff, Nat.reduceBEq, Nat.reduceMul, Nat.reduceSub, Int.reduceToNat, Int.reduceEq, Int.reduceLT, Int.reduceLE, Int.reduceNeg, Int.reduceAdd, Int.reduceSub, Int.reduceMul, Try.f11, kr11, ty3, ty25, ty26, hp, ht, hT, h, h1, h2, h3, gt_iff_lt, false_or]
        · simp (config := { maxSteps := 1000000 }) (disch := omega) only [push_cast, ↓reduceIte, Nat.reduceEqDiff, Nat.reduceAdd, Nat.reduceLT, Nat.reduceLeDiff, Nat.reduceBEq, Nat.reduceMul, Nat.reduceSub, Int.reduceToNat, Int.reduceEq, Int.reduceLT, Int.reduceLE, Int.reduceNeg, Int.reduceAdd, Int.reduceSub, Int.reduceMul, Try.f11, kr11, ty3, ty25, ty26, hp, ht, hT, h, h1, h2, h3, gt_iff_lt, false_or]
  · by_cases hT : okT lo hi st
    · simp (config := { maxSteps := 1000000 }) (disch := omega) only [push_cast, ↓reduceIte, Nat.reduceEqDiff, Nat.reduceAdd, Nat.reduceLT, Nat.reduceLeDiff, Nat.reduceBEq, Nat.reduceMul, Nat.reduceSub, Int.reduceToNat, Int.reduceEq, Int.reduceLT, Int.reduceLE, Int.reduceNeg, Int.reduceAdd, Int.reduceSub, Int.reduceMul, Try.f11, kr11, ty3, ty25, ty26, hp, ht, hT, h]
    · simp (config := { maxSteps := 1000000 }) (disch := omega) only [push_cast, ↓reduceIte, Nat.reduceEqDiff, Nat.reduceAdd, Nat.reduceLT, Nat.reduceLeDiff, Nat.reduceBEq, Nat.reduceMul, Nat.reduceSub, Int.reduceToNat, Int.reduceEq, Int.reduceLT, Int.reduceLE, Int.reduceNeg, Int.reduceAdd, Int.reduceSub, Int.reduceMul, Try.f11, kr11, ty3, ty25, ty26, hp, ht, hT, h]
theorem c_Safe (a b lo hi st low high : Int) (h : askE lo hi st [a, b, low, high] = 0) : CALL 9 [I a, I b, Tri lo hi st, I low, I high] = some (.tup [B (decide (firstOf (cnt lo hi st) (partQ a b lo st low high (cnt lo hi st)).1 (partQ a b lo st low high (cnt lo hi st)).2 < 0)), I 0], []) := by
  have hf := c_First a b lo hi st low high
  rw [if_pos h, h] at hf
  refine lim_run (fn := Try.f9) fn9 rfl body9 (Nat.le_of_ble_eq_true rfl) ok9 ?_
  simp (config := { maxSteps := 1000000 }) (disch := omega) only [push_cast, ↓reduceIte, Nat.reduceEqDiff, Nat.reduceAdd, Nat.reduceLT, Nat.reduceLeDiff, Nat.reduceBEq, Nat.reduceMul, Nat.reduceSub, Int.reduceToNat, Int.reduceEq, Int.reduceLT, Int.reduceLE, Int.reduceNeg, Int.reduceAdd, Int.reduceSub, Int.reduceMul, Try.f9, kr9, ty3, ty4, ty25, ty26, tb4, hf]
theorem c_Ends (a b lo hi st low high : Int) (h : askE lo hi st [a, b, low, high] = 0) : CALL 16 [I a, I b, Tri lo hi st] = some (.tup [I (if cnt lo hi st = 0 then 0 else mn (val a b lo st 0) (val a b lo st (cnt lo hi st - 1))), I (if cnt lo hi st = 0 then 0 else mx (val a b lo st 0) (val a b lo st (cnt lo hi st - 1))), B (decide (¬ cnt lo hi st = 0)), I 0], []) := by
  obtain ⟨hs, n1, n2, n3, n4, n5, n6, n7⟩ := ask4 h
  have he : askE lo hi st [a, b] = 0 := by
    unfold askE
    rw [if_neg hs, if_pos (by intro x hx; simp at hx; rcases hx with rfl | rfl | rfl <;> assumption), if_pos (by intro x hx; simp at hx; rcases hx with rfl | rfl <;> assumption)]
  have ha := fun cap => c_asked lo hi st false cap [a, b] (by show (2 : Int) ≤ _; omega)
  simp only [ints_2, List.length_cons, List.length_nil, Nat.zero_add, Nat.reduceAdd] at ha
  rw [he] at ha
  have ht := c_turns lo hi st
  rw [if_pos (okT_near hs n1 n2 n3)] at ht
  obtain ⟨hn0, hn1⟩ := cnt_near hs n1 n2
  unfold val
  refine lim_run (fn := Try.f16) fn16 rfl body16 (Nat.le_of_ble_eq_true rfl) ok16 ?_
  by_cases h0 : cnt lo hi st = 0
  · simp (config := { maxSteps := 1000000 }) (disch := omega) only [push_cast, ↓reduceIte, Nat.reduceEqDiff, Nat.reduceAdd, Nat.reduceLT, Nat.reduceLeDiff, Nat.reduceBEq, Nat.reduceMul, Nat.reduceSub, Int.reduceToNat, Int.reduceEq, Int.reduceLT, Int.reduceLE, Int.reduceNeg, Int.reduceAdd, Int.reduceSub, Int.reduceMul, Try.f16, kr16, ty3, ty4, ty25, ty26, ty41, tb4, ha, ht, h0]
  · have hb := near_turn hs n1 n2 (show 0 ≤ cnt lo hi st - 1 by omega) (show cnt lo hi st - 1 < cnt lo hi st by omega)
    have m1 := mulN n4 n1
    have m2 := mulN n4 hb
    unfold near at n1 n5 hb
    simp (config := { maxSteps := 1000000 }) (disch := omega) only [push_cast, ↓reduceIte, Nat.reduceEqDiff, Nat.reduceAdd, Nat.reduceLT, Nat.reduceLeDiff, Nat.reduceBEq, Nat.reduceMul, Nat.reduceSub, Int.reduceToNat, Int.reduceEq, Int.reduceLT, Int.reduceLE, Int.reduceNeg, Int.reduceAdd, Int.reduceSub, Int.reduceMul, Try.f16, kr16, ty3, ty4, ty25, ty26, ty41, tb4, ha, ht, h0, Int.zero_mul, Int.add_zero]
/-- The members from one turn on, up to another one. -/
def mem (lo st p q : Int) : Int × Int × Int := if q ≤ p then (1, 0, 1) else (lo + p * st, lo + (q - 1) * st, st)
abbrev memT (lo st p q : Int) : T := Tri (mem lo st p q).1 (mem lo st p q).2.1 (mem lo st p q).2.2
theorem c_members (lo st p q : Int) (hi : Int) (hs : st ≠ 0) (n1 : near lo) (n2 : near hi) (n3 : near st) (h0 : 0 ≤ p) (hq : q ≤ cnt lo hi st) : CALL 35 [Tri lo hi st, I p, I q] = some (memT lo st p q, []) := by
  unfold memT mem
  refine lim_run (fn := Try.f35) fn35 rfl body35 (Nat.le_of_ble_eq_true rfl) ok35 ?_
  by_cases h : q ≤ p
  · simp (config := { maxSteps := 1000000 }) (disch := omega) only [push_cast, ↓reduceIte, Nat.reduceEqDiff, Nat.reduceAdd, Nat.reduceLT, Nat.reduceLeDiff, Nat.reduceBEq, Nat.reduceMul, Nat.reduceSub, Int.reduceToNat, Int.reduceEq, Int.reduceLT, Int.reduceLE, Int.reduceNeg, Int.reduceAdd, Int.reduceSub, Int.reduceMul, Try.f35, kr35, ty3, ty25, h]
  · have b1 := near_turn hs n1 n2 h0 (show p < cnt lo hi st by omega)
    have b2 := near_turn hs n1 n2 (show 0 ≤ q - 1 by omega) (show q - 1 < cnt lo hi st by omega)
    obtain ⟨hn0, hn1⟩ := cnt_near hs n1 n2
    unfold near at n1 n3 b1 b2
    simp (config := { maxSteps := 1000000 }) (disch := omega) only [push_cast, ↓reduceIte, Nat.reduceEqDiff, Nat.reduceAdd, Nat.reduceLT, Nat.reduceLeDiff, Nat.reduceBEq, Nat.reduceMul, Nat.reduceSub, Int.reduceToNat, Int.reduceEq, Int.reduceLT, Int.reduceLE, Int.reduceNeg, Int.reduceAdd, Int.reduceSub, Int.reduceMul, Try.f35, kr35, ty3, ty25, h]
theorem c_Split (a b lo hi st low high f t : Int) (h : askE lo hi st [a, b, low, high] = 0) (hq : partQ a b lo st low high (cnt lo hi st) = (f, t)) (hP : PartSpec a b lo st low high (cnt lo hi st) f t) : CALL 18 [I a, I b, Tri lo hi st, I low, I high] = some (.tup [memT lo st 0 f, memT lo st f t, memT lo st t (cnt lo hi st), I 0], []) := by
  obtain ⟨hs, n1, n2, n3, n4, n5, n6, n7⟩ := ask4 h
  have hp := c_Part a b lo hi st low high
  rw [if_pos h, if_pos h, h, hq] at hp
  have ht := c_turns lo hi st
  rw [if_pos (okT_near hs n1 n2 n3)] at ht
  have p1 := hP.f0; have p2 := hP.tn; have p3 := hP.ft
  obtain ⟨hn0, hn1⟩ := cnt_near hs n1 n2
  have e1 := c_members lo st 0 f hi hs n1 n2 n3 (by omega) (by omega)
  have e2 := c_members lo st f t hi hs n1 n2 n3 (by omega) (by omega)
  have e3 := c_members lo st t (cnt lo hi st) hi hs n1 n2 n3 (by omega) (by omega)
  refine lim_run (fn := Try.f18) fn18 rfl body18 (Nat.le_of_ble_eq_true rfl) ok18 ?_
  simp (config := { maxSteps := 1000000 }) (disch := omega) only [push_cast, ↓reduceIte, Nat.reduceEqDiff, Nat.reduceAdd, Nat.reduceLT, Nat.reduceLeDiff, Nat.reduceBEq, Nat.reduceMul, Nat.reduceSub, Int.reduceToNat, Int.reduceEq, Int.reduceLT, Int.reduceLE, Int.reduceNeg, Int.reduceAdd, Int.reduceSub, Int.reduceMul, Try.f18, kr18, ty3, ty25, ty26, hp, ht, e1, e2, e3]
theorem c_SplitE (a b lo hi st low high : Int) (h : ¬ askE lo hi st [a, b, low, high] = 0) : CALL 18 [I a, I b, Tri lo hi st, I low, I high] = some (.tup [Tri 0 0 0, Tri 0 0 0, Tri 0 0 0, I (askE lo hi st [a, b, low, high])], []) := by
  have hp := c_Part a b lo hi st low high
  rw [if_neg h, if_neg h] at hp
  refine lim_run (fn := Try.f18) fn18 rfl body18 (Nat.le_of_ble_eq_true rfl) ok18 ?_
  simp (config := { maxSteps := 1000000 }) (disch := omega) only [push_cast, ↓reduceIte, Nat.reduceEqDiff, Nat.reduceAdd, Nat.reduceLT, Nat.reduceLeDiff, Nat.reduceBEq, Nat.reduceMul, Nat.reduceSub, Int.reduceToNat, Int.reduceEq, Int.reduceLT, Int.reduceLE, Int.reduceNeg, Int.reduceAdd, Int.reduceSub, Int.reduceMul, Try.f18, kr18, ty3, ty25, ty26, hp, h]
theorem l_turns3 (lo hi st : Int) (hs : st ≠ 0) (n1 : near lo) (n2 : near hi) (n3 : near st) (N : Nat) (hN : (N : Int) = cnt lo hi st ∨ (N = 600 ∧ 600 ≤ cnt lo hi st)) (hN6 : N ≤ 600) : ∀ (d j : Nat), j + d = N →
    lp E0 pr0 22 3 ⟨[(1, .pt 0 0), (3, .sl 1 0 j 1 none), (4, I (lo + j * st))], [(0, .box [I lo, I hi, I st]), (1, .arr (ints (tl lo st j)) 1 1)], 2⟩ =
      some (.exit 0, ⟨[(3, .sl 0 0 N 1 none)], [(0, .arr (ints (tl lo st N)) 0 1)], 1⟩) := by
  intro d
  induction d with
  | zero =>
    intro j hj
    obtain rfl : j = N := by omega
    rw [lp_eq lp22_3]
    by_cases h6 : (j : Int) < 600
    · have hc : ¬ ((j : Int) < cnt lo hi st) := by omega
      have hii := in_iff (lo := lo) (hi := hi) (st := st) (j := j) (by omega)
      by_cases hp : 0 < st
      · have h7 : ¬ lo + (j : Int) * st ≤ hi := fun h => hc ((hii.1 hp).1 h)
        have h8 : ¬ st < 0 := by omega
        simp (config := { maxSteps := 1000000 }) (disch := omega) only [push_cast, ↓reduceIte, Nat.reduceEqDiff, Nat.reduceAdd, Nat.reduceLT, Nat.reduceLeDiff, Nat.reduceBEq, Nat.reduceMul, Nat.reduceSub, Int.reduceToNat, Int.reduceEq, Int.reduceLT, Int.reduceLE, Int.reduceNeg, Int.reduceAdd, Int.reduceSub, Int.reduceMul, Try.f22, kr22, kp22_3, ow22_3, ty3, ty25, ty41, h6, hp, h7, h8]
      · have hn : st < 0 := by omega
        have h7 : ¬ hi ≤ lo + (j : Int) * st := fun h => hc ((hii.2 hn).1 h)
        simp (config := { maxSteps := 1000000 }) (disch := omega) only [push_cast, ↓reduceIte, Nat.reduceEqDiff, Nat.reduceAdd, Nat.reduceLT, Nat.reduceLeDiff, Nat.reduceBEq, Nat.reduceMul, Nat.reduceSub, Int.reduceToNat, Int.reduceEq, Int.reduceLT, Int.reduceLE, Int.reduceNeg, Int.reduceAdd, Int.reduceSub, Int.reduceMul, Try.f22, kr22, kp22_3, ow22_3, ty3, ty25, ty41, h6, hp, hn, h7]
    · simp (config := { maxSteps := 1000000 }) (disch := omega) only [push_cast, ↓reduceIte, Nat.reduceEqDiff, Nat.reduceAdd, Nat.reduceLT, Nat.reduceLeDiff, Nat.reduceBEq, Nat.reduceMul, Nat.reduceSub, Int.reduceToNat, Int.reduceEq, Int.reduceLT, Int.reduceLE, Int.reduceNeg, Int.reduceAdd, Int.reduceSub, Int.reduceMul, Try.f22, kr22, kp22_3, ow22_3, ty3, ty25, ty41, h6]
  | succ d ih =>
    intro j hj
    have hc : (j : Int) < cnt lo hi st := by omega
    have h6 : (j : Int) < 600 := by omega
    have hb := near_turn hs n1 n2 (show (0 : Int) ≤ j by omega) hc
    have hii := in_iff (lo := lo) (hi := hi) (st := st) (j := j) (by omega)
    have e : lo + ((j + 1 : Nat) : Int) * st = lo + (j : Int) * st + st := by rw [Int.natCast_add, Int.add_mul]; omega
    have ih' := ih (j + 1) (by omega)
    rw [e, tl_succ] at ih'
    unfold near at n3 hb
    have hl := tl_len lo st j
    rw [lp_eq lp22_3]
    by_cases hp : 0 < st
    · have h7 := (hii.1 hp).2 hc
      simp (config := { maxSteps := 1000000 }) (disch := omega) only [push_cast, ↓reduceIte, Nat.reduceEqDiff, Nat.reduceAdd, Nat.reduceLT, Nat.reduceLeDiff, Nat.reduceBEq, Nat.reduceMul, Nat.reduceSub, Int.reduceToNat, Int.reduceEq, Int.reduceLT, Int.reduceLE, Int.reduceNeg, Int.reduceAdd, Int.reduceSub, Int.reduceMul, Try.f22, kr22, kp22_3, ow22_3, ty3, ty25, ty41, h6, hp, h7, hl, ints_snoc, ih']
    · have hn : st < 0 := by omega
      have h7 : hi ≤ lo + (j : Int) * st := (hii.2 hn).2 hc
      simp (config := { maxSteps := 1000000 }) (disch := omega) only [push_cast, ↓reduceIte, Nat.reduceEqDiff, Nat.reduceAdd, Nat.reduceLT, Nat.reduceLeDiff, Nat.reduceBEq, Nat.reduceMul, Nat.reduceSub, Int.reduceToNat, Int.reduceEq, Int.reduceLT, Int.reduceLE, Int.reduceNeg, Int.reduceAdd, Int.reduceSub, Int.reduceMul, Try.f22, kr22, kp22_3, ow22_3, ty3, ty25, ty41, h6, hp, hn, h7, hl, ints_snoc, ih']
theorem c_lturns (lo hi st : Int) (hs : st ≠ 0) (n1 : near lo) (n2 : near hi) (n3 : near st) (N : Nat) (hN : (N : Int) = cnt lo hi st ∨ (N = 600 ∧ 600 ≤ cnt lo hi st)) (hN6 : N ≤ 600) :
    CALL 22 [Tri lo hi st] = some (.sl 0 0 N 1 none, [ints (tl lo st N)]) := by
  have h := l_turns3 lo hi st hs n1 n2 n3 N hN hN6 N 0 (by omega)
  simp only [Int.natCast_zero, Int.zero_mul, Int.add_zero, show tl lo st 0 = [] from rfl, ints_0] at h
  have hl : rowAt (ints (tl lo st N)) 0 N = ints (tl lo st N) := rowAt_all _ _ (by rw [ints_len, tl_len])
  refine lim_run (fn := Try.f22) fn22 rfl body22 (Nat.le_of_ble_eq_true rfl) ok22 ?_
  simp (config := { maxSteps := 1000000 }) (disch := omega) only [push_cast, ↓reduceIte, Nat.reduceEqDiff, Nat.reduceAdd, Nat.reduceLT, Nat.reduceLeDiff, Nat.reduceBEq, Nat.reduceMul, Nat.reduceSub, Int.reduceToNat, Int.reduceEq, Int.reduceLT, Int.reduceLE, Int.reduceNeg, Int.reduceAdd, Int.reduceSub, Int.reduceMul, Try.f22, kr22, kp22_3, ow22_3, ty3, ty25, ty41, h, hl]
/-- The members' turns. -/
theorem c_piece (lo hi st p q : Int) (hs : st ≠ 0) (n1 : near lo) (n2 : near hi) (n3 : near st) (h0 : 0 ≤ p) (hq : q ≤ cnt lo hi st) (h6 : cnt lo hi st < 600) :
    CALL 22 [memT lo st p q] = some (.sl 0 0 (q - p).toNat 1 none, [ints (tl (lo + p * st) st (q - p).toNat)]) := by
  unfold memT mem
  by_cases h : q ≤ p
  · have := c_lturns 1 0 1 (by decide) (by decide) (by decide) (by decide) 0 (.inl (by decide)) (by omega)
    rw [if_pos h, show (q - p).toNat = 0 by omega]
    exact this
  · have b1 := near_turn hs n1 n2 h0 (show p < cnt lo hi st by omega)
    have b2 := near_turn hs n1 n2 (show 0 ≤ q - 1 by omega) (show q - 1 < cnt lo hi st by omega)
    rw [if_neg h]
    exact c_lturns (lo + p * st) (lo + (q - 1) * st) st hs b1 b2 n3 (q - p).toNat (.inl (by rw [cnt_piece (hi := hi) hs (by omega)]; omega)) (by omega)
end Go.Proofs.Ytopnopepcpepbaa.Tev
