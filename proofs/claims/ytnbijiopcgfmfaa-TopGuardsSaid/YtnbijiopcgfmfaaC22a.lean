/- What the guard's functions return. -/
import Derived.Test.YtnbijiopcgfmfaaCSlc
import Derived.Test.YtnbijiopcgfmfaaCCnt
import Derived.Test.YtnbijiopcgfmfaaQGd
namespace Go.Proofs.Ytnbijiopcgfmfaa.Tev
open Go Go.RowKit Go.Proofs Go.Proofs.Ytnbijiopcgfmfaa.Q
set_option linter.unusedSectionVars false
set_option maxRecDepth 100000
set_option maxHeartbeats 0
set_option linter.unusedSimpArgs false
set_option linter.unusedVariables false
abbrev Tri (lo hi st : Int) : T := .agg [I lo, I hi, I st]
theorem c_isNum1 (n : Int) : CALL 102 [I n] = some (B (decide (¬ near n)), []) := by
  refine lim_run (fn := Try.f102) fn102 rfl body102 (Nat.le_of_ble_eq_true rfl) ok102 ?_
  simp (config := { maxSteps := 1000000 }) (disch := omega) only [push_cast, ↓reduceIte, Nat.reduceEqDiff, Nat.reduceAdd, Nat.reduceLT, Nat.reduceLeDiff, Nat.reduceBEq, Nat.reduceMul, Nat.reduceSub, Int.reduceToNat, Int.reduceEq, Int.reduceLT, Int.reduceLE, Int.reduceNeg, Int.reduceAdd, Int.reduceSub, Int.reduceMul, Try.f102, kr102, ty4, tb4]
  unfold near
  by_cases h1 : n < -1000000
  · rw [decide_eq_true (p := ¬ _) (fun h => by omega)]
    simp [h1]
  · by_cases h2 : 1000000 < n
    · rw [decide_eq_true (p := ¬ _) (fun h => by omega)]
      simp [h1, h2]
    · rw [decide_eq_false (p := ¬ _) (fun h => h ⟨by omega, by omega⟩)]
      simp [h1, h2]
theorem any_near1 (l : List Int) : (l.any fun n => decide (¬ near n)) = decide (¬ allN l) := by
  unfold allN
  rw [Bool.eq_iff_iff]
  simp
theorem c_isNumber1 (b : Bool) (c : Option Nat) (l : List Int) (hl : (l.length : Int) ≤ 9223372036854775806) : CALL 86 [SL b c l.length (ints l)] = some (B (decide (allN l)), []) := by
  have h := c_ContainsFunc 102 [] _ c_isNum1 shut_nil b c l hl
  rw [any_near1] at h
  refine lim_run (fn := Try.f86) fn86 rfl body86 (Nat.le_of_ble_eq_true rfl) ok86 ?_
  simp (config := { maxSteps := 1000000 }) (disch := omega) only [push_cast, ↓reduceIte, Nat.reduceEqDiff, Nat.reduceAdd, Nat.reduceLT, Nat.reduceLeDiff, Nat.reduceBEq, Nat.reduceMul, Nat.reduceSub, Int.reduceToNat, Int.reduceEq, Int.reduceLT, Int.reduceLE, Int.reduceNeg, Int.reduceAdd, Int.reduceSub, Int.reduceMul, Try.f86, kr86, ty4, tb4, h]
  by_cases h : allN l <;> simp [h]
theorem ints_3 (x y z : Int) : ints [x, y, z] = [CI x, CI y, CI z] := rfl
theorem ints_2 (x y : Int) : ints [x, y] = [CI x, CI y] := rfl
theorem ints_4 (x y z u : Int) : ints [x, y, z, u] = [CI x, CI y, CI z, CI u] := rfl
theorem c_asked (lo hi st : Int) (b : Bool) (c : Option Nat) (l : List Int) (hl : (l.length : Int) ≤ 9223372036854775806) : CALL 69 [Tri lo hi st, SL b c l.length (ints l)] = some (I (askE lo hi st l), []) := by
  have h1 := c_isNumber1 b c l hl
  have h2 := fun cap => c_isNumber1 false cap [lo, hi, st] (by show (3 : Int) ≤ _; omega)
  simp only [ints_3, List.length_cons, List.length_nil, Nat.zero_add, Nat.reduceAdd] at h2
  unfold askE
  refine lim_run (fn := Try.f69) fn69 rfl body69 (Nat.le_of_ble_eq_true rfl) ok69 ?_
  by_cases h0 : st = 0
  · subst h0
    simp (config := { maxSteps := 1000000 }) (disch := omega) only [push_cast, ↓reduceIte, Nat.reduceEqDiff, Nat.reduceAdd, Nat.reduceLT, Nat.reduceLeDiff, Nat.reduceBEq, Nat.reduceMul, Nat.reduceSub, Int.reduceToNat, Int.reduceEq, Int.reduceLT, Int.reduceLE, Int.reduceNeg, Int.reduceAdd, Int.reduceSub, Int.reduceMul, Try.f69, kr69, ty3, ty23, ty25, ty28]
  · by_cases h3 : allN [lo, hi, st]
    · by_cases h4 : allN l
      · simp (config := { maxSteps := 1000000 }) (disch := omega) only [push_cast, ↓reduceIte, Nat.reduceEqDiff, Nat.reduceAdd, Nat.reduceLT, Nat.reduceLeDiff, Nat.reduceBEq, Nat.reduceMul, Nat.reduceSub, Int.reduceToNat, Int.reduceEq, Int.reduceLT, Int.reduceLE, Int.reduceNeg, Int.reduceAdd, Int.reduceSub, Int.reduceMul, Try.f69, kr69, ty3, ty23, ty25, ty28, h0, h1, h2, h3, h4]
      · simp (config := { maxSteps := 1000000 }) (disch := omega) only [push_cast, ↓reduceIte, Nat.reduceEqDiff, Nat.reduceAdd, Nat.reduceLT, Nat.reduceLeDiff, Nat.reduceBEq, Nat.reduceMul, Nat.reduceSub, Int.reduceToNat, Int.reduceEq, Int.reduceLT, Int.reduceLE, Int.reduceNeg, Int.reduceAdd, Int.reduceSub, Int.reduceMul, Try.f69, kr69, ty3, ty23, ty25, ty28, h0, h1, h2, h3, h4]
    · simp (config := { maxSteps := 1000000 }) (disch := omega) only [push_cast, ↓reduceIte, Nat.reduceEqDiff, Nat.reduceAdd, Nat.reduceLT, Nat.reduceLeDiff, Nat.reduceBEq, Nat.reduceMul, Nat.reduceSub, Int.reduceToNat, Int.reduceEq, Int.reduceLT, Int.reduceLE, Int.reduceNeg, Int.reduceAdd, Int.reduceSub, Int.reduceMul, Try.f69, kr69, ty3, ty23, ty25, ty28, h0, h1, h2, h3]
theorem c_turns (lo hi st : Int) : CALL 44 [Tri lo hi st] = some (I (if okT lo hi st then cnt lo hi st else 0), []) := by
  have h := c_Count lo hi st
  refine lim_run (fn := Try.f44) fn44 rfl body44 (Nat.le_of_ble_eq_true rfl) ok44 ?_
  simp (config := { maxSteps := 1000000 }) (disch := omega) only [push_cast, ↓reduceIte, Nat.reduceEqDiff, Nat.reduceAdd, Nat.reduceLT, Nat.reduceLeDiff, Nat.reduceBEq, Nat.reduceMul, Nat.reduceSub, Int.reduceToNat, Int.reduceEq, Int.reduceLT, Int.reduceLE, Int.reduceNeg, Int.reduceAdd, Int.reduceSub, Int.reduceMul, Try.f44, kr44, ty3, ty23, h]
theorem c_floor (a b : Int) (hb : 0 < b) (h1 : -9000000000000 ≤ a) (h2 : a ≤ 9000000000000) : CALL 71 [I a, I b] = some (I (floorQ a b), []) := by
  have e : (Int.tdiv a b).natAbs ≤ a.natAbs := by rw [Int.natAbs_tdiv]; exact Nat.div_le_self _ _
  have w1 : IntKind.i64.wrap (Int.tdiv a b) = Int.tdiv a b := w64 (by omega) (by omega)
  have hb0 : ¬ b = 0 := by omega
  unfold floorQ
  refine lim_run (fn := Try.f71) fn71 rfl body71 (Nat.le_of_ble_eq_true rfl) ok71 ?_
  by_cases hneg : Int.tmod a b < 0
  · have w2 : IntKind.i64.wrap (Int.tdiv a b - 1) = Int.tdiv a b - 1 := w64 (by omega) (by omega)
    simp (config := { maxSteps := 1000000 }) (disch := omega) only [push_cast, ↓reduceIte, Nat.reduceEqDiff, Nat.reduceAdd, Nat.reduceLT, Nat.reduceLeDiff, Nat.reduceBEq, Nat.reduceMul, Nat.reduceSub, Int.reduceToNat, Int.reduceEq, Int.reduceLT, Int.reduceLE, Int.reduceNeg, Int.reduceAdd, Int.reduceSub, Int.reduceMul, Try.f71, kr71, ty3, hb0, w1, w2, hneg]
  · simp (config := { maxSteps := 1000000 }) (disch := omega) only [push_cast, ↓reduceIte, Nat.reduceEqDiff, Nat.reduceAdd, Nat.reduceLT, Nat.reduceLeDiff, Nat.reduceBEq, Nat.reduceMul, Nat.reduceSub, Int.reduceToNat, Int.reduceEq, Int.reduceLT, Int.reduceLE, Int.reduceNeg, Int.reduceAdd, Int.reduceSub, Int.reduceMul, Try.f71, kr71, ty3, hb0, w1, hneg]
theorem c_ceil (a b : Int) (hb : 0 < b) (h1 : -9000000000000 ≤ a) (h2 : a ≤ 9000000000000) : CALL 70 [I a, I b] = some (I (ceilQ a b), []) := by
  have h := c_floor (-a) b hb (by omega) (by omega)
  obtain ⟨_, _, h5, h6⟩ := floorQ_spec (a := -a) hb (by omega) (by omega)
  unfold ceilQ
  refine lim_run (fn := Try.f70) fn70 rfl body70 (Nat.le_of_ble_eq_true rfl) ok70 ?_
  simp (config := { maxSteps := 1000000 }) (disch := omega) only [push_cast, ↓reduceIte, Nat.reduceEqDiff, Nat.reduceAdd, Nat.reduceLT, Nat.reduceLeDiff, Nat.reduceBEq, Nat.reduceMul, Nat.reduceSub, Int.reduceToNat, Int.reduceEq, Int.reduceLT, Int.reduceLE, Int.reduceNeg, Int.reduceAdd, Int.reduceSub, Int.reduceMul, Try.f70, kr70, ty3, Int.zero_sub, h]
theorem askE_off {lo hi st : Int} {l : List Int} (h : ¬ askE lo hi st l = 0) : askE lo hi st l ≠ 0 := h
theorem c_Part (a b lo hi st low high : Int) : CALL 36 [I a, I b, Tri lo hi st, I low, I high] = some (.tup [I (if askE lo hi st [a, b, low, high] = 0 then (partQ a b lo st low high (cnt lo hi st)).1 else 0), I (if askE lo hi st [a, b, low, high] = 0 then (partQ a b lo st low high (cnt lo hi st)).2 else 0), I (askE lo hi st [a, b, low, high])], []) := by
  have ha := fun cap => c_asked lo hi st false cap [a, b, low, high] (by show (4 : Int) ≤ _; omega)
  simp only [ints_4, List.length_cons, List.length_nil, Nat.zero_add, Nat.reduceAdd] at ha
  have ht := c_turns lo hi st
  refine lim_run (fn := Try.f36) fn36 rfl body36 (Nat.le_of_ble_eq_true rfl) ok36 ?_
  by_cases h : askE lo hi st [a, b, low, high] = 0
  · obtain ⟨hs, n1, n2, n3, n4, n5, n6, n7⟩ := ask4 h
    have hT := okT_near hs n1 n2 n3
    have m1 := mulN n4 n1
    have m2 := mulN n4 n3
    obtain ⟨hn0, hn1⟩ := cnt_near hs n1 n2
    unfold near at n4 n5 n6 n7
    unfold partQ
    by_cases h0 : a * st = 0
    · by_cases hl : a * lo + b < low
      · simp (config := { maxSteps := 1000000 }) (disch := omega) only [push_cast, ↓reduceIte, Nat.reduceEqDiff, Nat.reduceAdd, Nat.reduceLT, Nat.reduceLeDiff, Nat.reduceBEq, Nat.reduceMul, Nat.reduceSub, Int.reduceToNat, Int.reduceEq, Int.reduceLT, Int.reduceLE, Int.reduceNeg, Int.reduceAdd, Int.reduceSub, Int.reduceMul, Try.f36, kr36, ty3, ty23, ty25, ty28, ha, ht, hT, h, h0, hl]
      · by_cases hh : high < a * lo + b
        · simp (config := { maxSteps := 1000000 }) (disch := omega) only [push_cast, ↓reduceIte, Nat.reduceEqDiff, Nat.reduceAdd, Nat.reduceLT, Nat.reduceLeDiff, Nat.reduceBEq, Nat.reduceMul, Nat.reduceSub, Int.reduceToNat, Int.reduceEq, Int.reduceLT, Int.reduceLE, Int.reduceNeg, Int.reduceAdd, Int.reduceSub, Int.reduceMul, Try.f36, kr36, ty3, ty23, ty25, ty28, ha, ht, hT, h, h0, hl, hh]
        · simp (config := { maxSteps := 1000000 }) (disch := omega) only [push_cast, ↓reduceIte, Nat.reduceEqDiff, Nat.reduceAdd, Nat.reduceLT, Nat.reduceLeDiff, Nat.reduceBEq, Nat.reduceMul, Nat.reduceSub, Int.reduceToNat, Int.reduceEq, Int.reduceLT, Int.reduceLE, Int.reduceNeg, Int.reduceAdd, Int.reduceSub, Int.reduceMul, Try.f36, kr36, ty3, ty23, ty25, ty28, ha, ht, hT, h, h0, hl, hh]
    · by_cases hneg : a * st < 0
      · have c1 := c_ceil (-high - -(a * lo + b)) (-(a * st)) (by omega) (by omega) (by omega)
        have c2 := c_floor (-low - -(a * lo + b)) (-(a * st)) (by omega) (by omega) (by omega)
        obtain ⟨_, _, f1, f2⟩ := floorQ_spec (a := -low - -(a * lo + b)) (b := -(a * st)) (by omega) (by omega) (by omega)
        unfold risQ
        by_cases hge : mn (cnt lo hi st) (floorQ (-low - -(a * lo + b)) (-(a * st)) + 1) ≤ mx 0 (ceilQ (-high - -(a * lo + b)) (-(a * st)))
        · simp (config := { maxSteps := 1000000 }) (disch := omega) only [push_cast, ↓reduceIte, Nat.reduceEqDiff, Nat.reduceAdd, Nat.reduceLT, Nat.reduceLeDiff, Nat.reduceBEq, Nat.reduceMul, Nat.reduceSub, Int.reduceToNat, Int.reduceEq, Int.reduceLT, Int.reduceLE, Int.reduceNeg, Int.reduceAdd, Int.reduceSub, Int.reduceMul, Try.f36, kr36, ty3, ty23, ty25, ty28, Int.zero_sub, ha, ht, hT, h, h0, hneg, c1, c2, hge]
        · simp (config := { maxSteps := 1000000 }) (disch := omega) only [push_cast, ↓reduceIte, Nat.reduceEqDiff, Nat.reduceAdd, Nat.reduceLT, Nat.reduceLeDiff, Nat.reduceBEq, Nat.reduceMul, Nat.reduceSub, Int.reduceToNat, Int.reduceEq, Int.reduceLT, Int.reduceLE, Int.reduceNeg, Int.reduceAdd, Int.reduceSub, Int.reduceMul, Try.f36, kr36, ty3, ty23, ty25, ty28, Int.zero_sub, ha, ht, hT, h, h0, hneg, c1, c2, hge]
      · have c1 := c_ceil (low - (a * lo + b)) (a * st) (by omega) (by omega) (by omega)
        have c2 := c_floor (high - (a * lo + b)) (a * st) (by omega) (by omega) (by omega)
        obtain ⟨_, _, f1, f2⟩ := floorQ_spec (a := high - (a * lo + b)) (b := a * st) (by omega) (by omega) (by omega)
        unfold risQ
        by_cases hge : mn (cnt lo hi st) (floorQ (high - (a * lo + b)) (a * st) + 1) ≤ mx 0 (ceilQ (low - (a * lo + b)) (a * st))
        · simp (config := { maxSteps := 1000000 }) (disch := omega) only [push_cast, ↓reduceIte, Nat.reduceEqDiff, Nat.reduceAdd, Nat.reduceLT, Nat.reduceLeDiff, Nat.reduceBEq, Nat.reduceMul, Nat.reduceSub, Int.reduceToNat, Int.reduceEq, Int.reduceLT, Int.reduceLE, Int.reduceNeg, Int.reduceAdd, Int.reduceSub, Int.reduceMul, Try.f36, kr36, ty3, ty23, ty25, ty28, Int.zero_sub, ha, ht, hT, h, h0, hneg, c1, c2, hge]
        · simp (config := { maxSteps := 1000000 }) (disch := omega) only [push_cast, ↓reduceIte, Nat.reduceEqDiff, Nat.reduceAdd, Nat.reduceLT, Nat.reduceLeDiff, Nat.reduceBEq, Nat.reduceMul, Nat.reduceSub, Int.reduceToNat, Int.reduceEq, Int.reduceLT, Int.reduceLE, Int.reduceNeg, Int.reduceAdd, Int.reduceSub, Int.reduceMul, Try.f36, kr36, ty3, ty23, ty25, ty28, Int.zero_sub, ha, ht, hT, h, h0, hneg, c1, c2, hge]
  · simp (config := { maxSteps := 1000000 }) (disch := omega) only [push_cast, ↓reduceIte, Nat.reduceEqDiff, Nat.reduceAdd, Nat.reduceLT, Nat.reduceLeDiff, Nat.reduceBEq, Nat.reduceMul, Nat.reduceSub, Int.reduceToNat, Int.reduceEq, Int.reduceLT, Int.reduceLE, Int.reduceNeg, Int.reduceAdd, Int.reduceSub, Int.reduceMul, Try.f36, kr36, ty3, ty23, ty25, ty28, ha, ht, h]
theorem c_First (a b lo hi st low high : Int) : CALL 13 [I a, I b, Tri lo hi st, I low, I high] = some (.tup [I (if askE lo hi st [a, b, low, high] = 0 then firstOf (cnt lo hi st) (partQ a b lo st low high (cnt lo hi st)).1 (partQ a b lo st low high (cnt lo hi st)).2 else 0), I (askE lo hi st [a, b, low, high])], []) := by
  have hp := c_Part a b lo hi st low high
  have ht := c_turns lo hi st
  unfold firstOf
  refine lim_run (fn := Try.f13) fn13 rfl body13 (Nat.le_of_ble_eq_true rfl) ok13 ?_
  by_cases h : askE lo hi st [a, b, low, high] = 0
  · obtain ⟨hs, n1, n2, n3, n4, n5, n6, n7⟩ := ask4 h
    have hT := okT_near hs n1 n2 n3
    generalize hq : partQ a b lo st low high (cnt lo hi st) = q at hp ⊢
    obtain ⟨f, t⟩ := q
    by_cases h1 : 0 < f
    · simp (config := { maxSteps := 1000000 }) (disch := omega) only [push_cast, ↓reduceIte, Nat.reduceEqDiff, Nat.reduceAdd, Nat.reduceLT, Nat.reduceLeDiff, Nat.reduceBEq, Nat.reduceMul, Nat.reduceSub, Int.reduceToNat, Int.reduceEq, Int.reduceLT, Int.reduceLE, Int.reduceNeg, Int.reduceAdd, Int.reduceSub, Int.reduceMul, Try.f13, kr13, ty3, ty23, ty25, hp, ht, hT, h, h1, gt_iff_lt, true_or]
    · by_cases h2 : t = 0
      · by_cases h3 : 0 < cnt lo hi st
        · simp (config := { maxSteps := 1000000 }) (disch := omega) only [push_cast, ↓reduceIte, Nat.reduceEqDiff, Nat.reduceAdd, Nat.reduceLT, Nat.reduceLeDiff, Nat.reduceBEq, Nat.reduceMul, Nat.reduceSub, Int.reduceToNat, Int.reduceEq, Int.reduceLT, Int.reduceLE, Int.reduceNeg, Int.reduceAdd, Int.reduceSub, Int.reduceMul, Try.f13, kr13, ty3, ty23, ty25, hp, ht, hT, h, h1, h2, h3, gt_iff_lt, false_or]
        · simp (config := { maxSteps := 1000000 }) (disch := omega) only [push_cast, ↓reduceIte, Nat.reduceEqDiff, Nat.reduceAdd, Nat.reduceLT, Nat.reduceLeDiff, Nat.reduceBEq, Nat.reduceMul, Nat.reduceSub, Int.reduceToNat, Int.reduceEq, Int.reduceLT, Int.reduceLE, Int.reduceNeg, Int.reduceAdd, Int.reduceSub, Int.reduceMul, Try.f13, kr13, ty3, ty23, ty25, hp, ht, hT, h, h1, h2, h3, gt_iff_lt, false_or]
      · by_cases h3 : t < cnt lo hi st
        · simp (config := { maxSteps := 1000000 }) (disch := omega) only [push_cast, ↓reduceIte, Nat.reduceEqDiff, Nat.reduceAdd, Nat.reduceLT, Nat.reduceLeDiff, Nat.reduceBEq, Nat.reduceMul, Nat.reduceSub, Int.reduceToNat, Int.reduceEq, Int.reduceLT, Int.reduceLE, Int.reduceNeg, Int.reduceAdd, Int.reduceSub, Int.reduceMul, Try.f13, kr13, ty3, ty23, ty25, hp, ht, hT, h, h1, h2, h3, gt_iff_lt, false_or]
        · simp (config := { maxSteps := 1000000 }) (disch := omega) only [push_cast, ↓reduceIte, Nat.reduceEqDiff, Nat.reduceAdd, Nat.reduceLT, Nat.reduceLeDiff, Nat.reduceBEq, Nat.reduceMul, Nat.reduceSub, Int.reduceToNat, Int.reduceEq, Int.reduceLT, Int.reduceLE, Int.reduceNeg, Int.reduceAdd, Int.reduceSub, Int.reduceMul, Try.f13, kr13, ty3, ty23, ty25, hp, ht, hT, h, h1, h2, h3, gt_iff_lt, false_or]
  · by_cases hT : okT lo hi st
    · simp (config := { maxSteps := 1000000 }) (disch := omega) only [push_cast, ↓reduceIte, Nat.reduceEqDiff, Nat.reduceAdd, Nat.reduceLT, Nat.reduceLeDiff, Nat.reduceBEq, Nat.reduceMul, Nat.reduceSub, Int.reduceToNat, Int.reduceEq, Int.reduceLT, Int.reduceLE, Int.reduceNeg, Int.reduceAdd, Int.reduceSub, Int.reduceMul, Try.f13, kr13, ty3, ty23, ty25, hp, ht, hT, h]
    · simp (config := { maxSteps := 1000000 }) (disch := omega) only [push_cast, ↓reduceIte, Nat.reduceEqDiff, Nat.reduceAdd, Nat.reduceLT, Nat.reduceLeDiff, Nat.reduceBEq, Nat.reduceMul, Nat.reduceSub, Int.reduceToNat, Int.reduceEq, Int.reduceLT, Int.reduceLE, Int.reduceNeg, Int.reduceAdd, Int.reduceSub, Int.reduceMul, Try.f13, kr13, ty3, ty23, ty25, hp, ht, hT, h]
theorem c_Safe (a b lo hi st low high : Int) (h : askE lo hi st [a, b, low, high] = 0) : CALL 9 [I a, I b, Tri lo hi st, I low, I high] = some (.tup [B (decide (firstOf (cnt lo hi st) (partQ a b lo st low high (cnt lo hi st)).1 (partQ a b lo st low high (cnt lo hi st)).2 < 0)), I 0], []) := by
  have hf := c_First a b lo hi st low high
  rw [if_pos h, h] at hf
  refine lim_run (fn := Try.f9) fn9 rfl body9 (Nat.le_of_ble_eq_true rfl) ok9 ?_
  simp (config := { maxSteps := 1000000 }) (disch := omega) only [push_cast, ↓reduceIte, Nat.reduceEqDiff, Nat.reduceAdd, Nat.reduceLT, Nat.reduceLeDiff, Nat.reduceBEq, Nat.reduceMul, Nat.reduceSub, Int.reduceToNat, Int.reduceEq, Int.reduceLT, Int.reduceLE, Int.reduceNeg, Int.reduceAdd, Int.reduceSub, Int.reduceMul, Try.f9, kr9, ty3, ty4, ty23, ty25, tb4, hf]
/-- The members from one turn on, up to another one. -/
def mem (lo st p q : Int) : Int × Int × Int := if q ≤ p then (1, 0, 1) else (lo + p * st, lo + (q - 1) * st, st)
abbrev memT (lo st p q : Int) : T := Tri (mem lo st p q).1 (mem lo st p q).2.1 (mem lo st p q).2.2
theorem c_members (lo st p q : Int) (hi : Int) (hs : st ≠ 0) (n1 : near lo) (n2 : near hi) (n3 : near st) (h0 : 0 ≤ p) (hq : q ≤ cnt lo hi st) : CALL 45 [Tri lo hi st, I p, I q] = some (memT lo st p q, []) := by
  unfold memT mem
  refine lim_run (fn := Try.f45) fn45 rfl body45 (Nat.le_of_ble_eq_true rfl) ok45 ?_
  by_cases h : q ≤ p
  · simp (config := { maxSteps := 1000000 }) (disch := omega) only [push_cast, ↓reduceIte, Nat.reduceEqDiff, Nat.reduceAdd, Nat.reduceLT, Nat.reduceLeDiff, Nat.reduceBEq, Nat.reduceMul, Nat.reduceSub, Int.reduceToNat, Int.reduceEq, Int.reduceLT, Int.reduceLE, Int.reduceNeg, Int.reduceAdd, Int.reduceSub, Int.reduceMul, Try.f45, kr45, ty3, ty23, h]
  · have b1 := near_turn hs n1 n2 h0 (show p < cnt lo hi st by omega)
    have b2 := near_turn hs n1 n2 (show 0 ≤ q - 1 by omega) (show q - 1 < cnt lo hi st by omega)
    obtain ⟨hn0, hn1⟩ := cnt_near hs n1 n2
    unfold near at n1 n3 b1 b2
    simp (config := { maxSteps := 1000000 }) (disch := omega) only [push_cast, ↓reduceIte, Nat.reduceEqDiff, Nat.reduceAdd, Nat.reduceLT, Nat.reduceLeDiff, Nat.reduceBEq, Nat.reduceMul, Nat.reduceSub, Int.reduceToNat, Int.reduceEq, Int.reduceLT, Int.reduceLE, Int.reduceNeg, Int.reduceAdd, Int.reduceSub, Int.reduceMul, Try.f45, kr45, ty3, ty23, h]
theorem c_Split (a b lo hi st low high f t : Int) (h : askE lo hi st [a, b, low, high] = 0) (hq : partQ a b lo st low high (cnt lo hi st) = (f, t)) (hP : PartSpec a b lo st low high (cnt lo hi st) f t) : CALL 14 [I a, I b, Tri lo hi st, I low, I high] = some (.tup [memT lo st 0 f, memT lo st f t, memT lo st t (cnt lo hi st), I 0], []) := by
  obtain ⟨hs, n1, n2, n3, n4, n5, n6, n7⟩ := ask4 h
  have hp := c_Part a b lo hi st low high
  rw [if_pos h, if_pos h, h, hq] at hp
  have ht := c_turns lo hi st
  rw [if_pos (okT_near hs n1 n2 n3)] at ht
  have p1 := hP.f0; have p2 := hP.tn; have p3 := hP.ft
  obtain ⟨hn0, hn1⟩ := cnt_near hs n1 n2
  have e1 := c_members lo st 0 f hi hs n1 n2 n3 (by omega) (by omega)
  have e2 := c_members lo st f t hi hs n1 n2 n3 (by omega) (by omega)
  have e3 := c_members lo st t (cnt lo hi st) hi hs n1 n2 n3 (by omega) (by omega)
  refine lim_run (fn := Try.f14) fn14 rfl body14 (Nat.le_of_ble_eq_true rfl) ok14 ?_
  simp (config := { maxSteps := 1000000 }) (disch := omega) only [push_cast, ↓reduceIte, Nat.reduceEqDiff, Nat.reduceAdd, Nat.reduceLT, Nat.reduceLeDiff, Nat.reduceBEq, Nat.reduceMul, Nat.reduceSub, Int.reduceToNat, Int.reduceEq, Int.reduceLT, Int.reduceLE, Int.reduceNeg, Int.reduceAdd, Int.reduceSub, Int.reduceMul, Try.f14, kr14, ty3, ty23, ty25, hp, ht, e1, e2, e3]
theorem c_SplitE (a b lo hi st low high : Int) (h : ¬ askE lo hi st [a, b, low, high] = 0) : CALL 14 [I a, I b, Tri lo hi st, I low, I high] = some (.tup [Tri 0 0 0, Tri 0 0 0, Tri 0 0 0, I (askE lo hi st [a, b, low, high])], []) := by
  have hp := c_Part a b lo hi st low high
  rw [if_neg h, if_neg h] at hp
  refine lim_run (fn := Try.f14) fn14 rfl body14 (Nat.le_of_ble_eq_true rfl) ok14 ?_
  simp (config := { maxSteps := 1000000 }) (disch := omega) only [push_cast, ↓reduceIte, Nat.reduceEqDiff, Nat.reduceAdd, Nat.reduceLT, Nat.reduceLeDiff, Nat.reduceBEq, Nat.reduceMul, Nat.reduceSub, Int.reduceToNat, Int.reduceEq, Int.reduceLT, Int.reduceLE, Int.reduceNeg, Int.reduceAdd, Int.reduceSub, Int.reduceMul, Try.f14, kr14, ty3, ty23, ty25, hp, h]
end Go.Proofs.Ytnbijiopcgfmfaa.Tev
