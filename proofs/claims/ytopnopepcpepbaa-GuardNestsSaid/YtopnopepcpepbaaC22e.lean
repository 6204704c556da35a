/- A nest's error: the guard's. -/
import Derived.Test.YtopnopepcpepbaaC22d
namespace Go.Proofs.Ytopnopepcpepbaa.Tev
open Go Go.RowKit Go.Proofs Go.Proofs.Ytopnopepcpepbaa.Q
set_option linter.unusedSectionVars false
set_option maxRecDepth 100000
set_option maxHeartbeats 0
set_option linter.unusedSimpArgs false
set_option linter.unusedVariables false
theorem l_IndexFuncT (g : FuncId) (caps : List T) (p : TriP → Bool) (hg : ∀ x, CALL g (Tri x.1 x.2.1 x.2.2 :: caps) = some (B (p x), [])) (hc : Shut caps) (b : Bool) (cap : Option Nat) (xs : List TriP) (hx : (xs.length : Int) ≤ 9223372036854775806) :
    ∀ (r : List TriP) (i : Nat), xs.drop i = r → lp E0 pr0 51 2 ⟨[(0, SL b cap xs.length (xs.flatMap triC)), (1, .fn g caps), (7, I xs.length), (8, I i)], [], 0⟩ =
      if r.any p = true then some (.ret, ⟨[(4, I (i + r.findIdx p))], [], 0⟩) else some (.exit 0, ⟨[], [], 0⟩) := by
  intro r
  induction r with
  | nil =>
    intro i hi
    have h1 := drop_nil hi
    have h2 : ¬ (i : Int) < xs.length := by omega
    rw [lp_eq lp51_2]
    simp (config := { maxSteps := 1000000 }) (disch := omega) only [push_cast, ↓reduceIte, Nat.reduceEqDiff, Nat.reduceAdd, Nat.reduceLT, Nat.reduceLeDiff, Nat.reduceBEq, Nat.reduceMul, Nat.reduceSub, Int.reduceToNat, Int.reduceEq, Int.reduceLT, Int.reduceLE, Int.reduceNeg, Int.reduceAdd, Int.reduceSub, Int.reduceMul, Try.f51, kr51, kp51_2, ow51_2, ty3, ty25, ty45, h2]
    simp
  | cons x r ih =>
    intro i hi
    obtain ⟨h1, h2, h3⟩ := drop_cons hi
    have h4 : (i : Int) < xs.length := by omega
    have ih' := ih (i + 1) h3
    simp only [cast1] at ih'
    rw [lp_eq lp51_2]
    simp (config := { maxSteps := 1000000 }) (disch := omega) only [push_cast, ↓reduceIte, Nat.reduceEqDiff, Nat.reduceAdd, Nat.reduceLT, Nat.reduceLeDiff, Nat.reduceBEq, Nat.reduceMul, Nat.reduceSub, Int.reduceToNat, Int.reduceEq, Int.reduceLT, Int.reduceLE, Int.reduceNeg, Int.reduceAdd, Int.reduceSub, Int.reduceMul, Try.f51, kr51, kp51_2, ow51_2, ty3, ty25, ty45, shut_snap _ hc, shut_foc _ _ _ hc, map_nrm, hg, h1, h4, tr0 h2, tr1 h2, tr2 h2, ih']
    rw [List.any_cons, List.findIdx_cons]
    cases p x with
    | true => simp
    | false =>
      simp only [Bool.false_eq_true, if_false, Bool.false_or, cond_false, cast1]
      split <;> simp <;> omega
theorem c_IndexFuncT (g : FuncId) (caps : List T) (p : TriP → Bool) (hg : ∀ x, CALL g (Tri x.1 x.2.1 x.2.2 :: caps) = some (B (p x), [])) (hc : Shut caps) (b : Bool) (cap : Option Nat) (xs : List TriP) (hx : (xs.length : Int) ≤ 9223372036854775806) :
    CALL 51 [SL b cap xs.length (xs.flatMap triC), .fn g caps] = some (I (if xs.any p then (xs.findIdx p : Int) else -1), []) := by
  have h := l_IndexFuncT g caps p hg hc b cap xs hx xs 0 rfl
  simp only [Int.natCast_zero, Int.zero_add] at h
  refine lim_run (fn := Try.f51) fn51 rfl body51 (Nat.le_of_ble_eq_true rfl) ok51 ?_
  simp (config := { maxSteps := 1000000 }) (disch := omega) only [push_cast, ↓reduceIte, Nat.reduceEqDiff, Nat.reduceAdd, Nat.reduceLT, Nat.reduceLeDiff, Nat.reduceBEq, Nat.reduceMul, Nat.reduceSub, Int.reduceToNat, Int.reduceEq, Int.reduceLT, Int.reduceLE, Int.reduceNeg, Int.reduceAdd, Int.reduceSub, Int.reduceMul, Try.f51, kr51, kp51_2, ow51_2, ty3, ty25, ty45, shut_snap _ hc, shut_foc _ _ _ hc, map_nrm, hg, h]
  split <;> rfl
theorem c_ContainsFuncT (g : FuncId) (caps : List T) (p : TriP → Bool) (hg : ∀ x, CALL g (Tri x.1 x.2.1 x.2.2 :: caps) = some (B (p x), [])) (hc : Shut caps) (b : Bool) (cap : Option Nat) (xs : List TriP) (hx : (xs.length : Int) ≤ 9223372036854775806) :
    CALL 46 [SL b cap xs.length (xs.flatMap triC), .fn g caps] = some (B (xs.any p), []) := by
  have h := c_IndexFuncT g caps p hg hc b cap xs hx
  refine lim_run (fn := Try.f46) fn46 rfl body46 (Nat.le_of_ble_eq_true rfl) ok46 ?_
  simp (config := { maxSteps := 1000000 }) (disch := omega) only [push_cast, ↓reduceIte, Nat.reduceEqDiff, Nat.reduceAdd, Nat.reduceLT, Nat.reduceLeDiff, Nat.reduceBEq, Nat.reduceMul, Nat.reduceSub, Int.reduceToNat, Int.reduceEq, Int.reduceLT, Int.reduceLE, Int.reduceNeg, Int.reduceAdd, Int.reduceSub, Int.reduceMul, Try.f46, kr46, ty4, tb4, shut_snap _ hc, shut_foc _ _ _ hc, map_nrm, h]
  by_cases h : xs.any p = true <;> simp [h]
theorem c_nest1 (t : TriP) : CALL 47 [Tri t.1 t.2.1 t.2.2] = some (B (decide (t.2.2 = 0)), []) := by
  refine lim_run (fn := Try.f47) fn47 rfl body47 (Nat.le_of_ble_eq_true rfl) ok47 ?_
  simp (config := { maxSteps := 1000000 }) (disch := omega) only [push_cast, ↓reduceIte, Nat.reduceEqDiff, Nat.reduceAdd, Nat.reduceLT, Nat.reduceLeDiff, Nat.reduceBEq, Nat.reduceMul, Nat.reduceSub, Int.reduceToNat, Int.reduceEq, Int.reduceLT, Int.reduceLE, Int.reduceNeg, Int.reduceAdd, Int.reduceSub, Int.reduceMul, Try.f47, kr47, ty3, ty4, ty25, tb4]
/-- The product that the guard keeps: turns are cut. -/
def prodG : List TriP → Int
  | [] => 1
  | t :: r => mn (cntT t) 2001 * prodG r
def G3 : Nat → Int
  | 0 => 1
  | 1 => 2001
  | 2 => 4004001
  | _ => 8012006001
theorem G3_step {n : Nat} {x y : Int} (hn : n < 3) (h0 : 0 ≤ x) (h1 : x ≤ G3 n) (y0 : 0 ≤ y) (y1 : y ≤ 2001) : 0 ≤ x * y ∧ x * y ≤ G3 (n + 1) := by
  refine ⟨Int.mul_nonneg h0 y0, ?_⟩
  have hm : x * y ≤ G3 n * 2001 := Int.mul_le_mul h1 y1 y0 (by unfold G3; split <;> omega)
  have : n = 0 ∨ n = 1 ∨ n = 2 := by omega
  rcases this with rfl | rfl | rfl <;> simp only [G3] at hm ⊢ <;> omega
theorem G3_le (n : Nat) : G3 n ≤ 8012006001 := by unfold G3; split <;> omega
theorem prodG_pos : ∀ {l : List TriP}, noneT l = false → 1 ≤ prodG l
  | [], _ => by simp [prodG]
  | t :: r, h => by
    unfold noneT at h
    rw [List.any_cons, Bool.or_eq_false_iff] at h
    have h1 := of_decide_eq_false h.1
    have h2 : 0 ≤ cntT t := cnt_nonneg _ _ _
    have h3 := prodG_pos (l := r) h.2
    have h4 : 1 ≤ mn (cntT t) 2001 := by unfold mn; split <;> omega
    have := Int.mul_le_mul h4 h3 (by omega) (by omega)
    rw [prodG]; omega
theorem prodT_pos : ∀ {l : List TriP}, noneT l = false → 1 ≤ prodT l
  | [], _ => by simp [prodT]
  | t :: r, h => by
    unfold noneT at h
    rw [List.any_cons, Bool.or_eq_false_iff] at h
    have h1 := of_decide_eq_false h.1
    have h2 : 0 ≤ cntT t := cnt_nonneg _ _ _
    have h3 := prodT_pos (l := r) h.2
    have := Int.mul_le_mul (show 1 ≤ cntT t by omega) h3 (by omega) (by omega)
    rw [prodT]; omega
theorem prodG_none : ∀ {l : List TriP}, noneT l = true → prodG l = 0
  | [], h => by simp [noneT] at h
  | t :: r, h => by
    unfold noneT at h
    rw [List.any_cons, Bool.or_eq_true] at h
    rw [prodG]
    rcases h with h | h
    · rw [of_decide_eq_true h, show mn 0 2001 = 0 from rfl, Int.zero_mul]
    · rw [prodG_none (l := r) h, Int.mul_zero]
/-- Cut or not, both are too great, or neither is. -/
theorem prodG_iff : ∀ {l : List TriP}, noneT l = false → (2000 < prodG l ↔ 2000 < prodT l) ∧ (prodG l ≤ 2000 → prodG l = prodT l)
  | [], _ => by simp [prodG, prodT]
  | t :: r, h => by
    have h' := h
    unfold noneT at h
    rw [List.any_cons, Bool.or_eq_false_iff] at h
    have h1 := of_decide_eq_false h.1
    have h2 : 0 ≤ cntT t := cnt_nonneg _ _ _
    obtain ⟨i1, i2⟩ := prodG_iff (l := r) h.2
    have p1 := prodG_pos (l := r) h.2
    have p2 := prodT_pos (l := r) h.2
    rw [prodG, prodT]
    by_cases hc : 2001 ≤ cntT t
    · have e : mn (cntT t) 2001 = 2001 := by unfold mn; split <;> omega
      rw [e]
      have m := Int.mul_le_mul hc p2 (by omega) (by omega)
      omega
    · have e : mn (cntT t) 2001 = cntT t := by unfold mn; split <;> omega
      rw [e]
      by_cases hg : prodG r ≤ 2000
      · rw [i2 hg]; exact ⟨Iff.rfl, fun _ => rfl⟩
      · have a1 := i1.1 (by omega)
        have m1 := Int.mul_le_mul (show 1 ≤ cntT t by omega) (show 2001 ≤ prodG r by omega) (by omega) (by omega)
        have m2 := Int.mul_le_mul (show 1 ≤ cntT t by omega) (show 2001 ≤ prodT r by omega) (by omega) (by omega)
        omega
end Go.Proofs.Ytopnopepcpepbaa.Tev
