/- slices.IndexFunc, ContainsFunc. -/
import Derived.Test.YtnbijiopcgfmfaaTevPr
namespace Go.Proofs.Ytnbijiopcgfmfaa.Tev
open Go Go.RowKit Go.Proofs Go.Proofs.Ytnbijiopcgfmfaa.Q
set_option linter.unusedSectionVars false
set_option maxRecDepth 100000
set_option maxHeartbeats 0
set_option linter.unusedSimpArgs false
set_option linter.unusedVariables false
theorem l_IndexFunc (g : FuncId) (caps : List T) (p : Int → Bool) (hg : ∀ x, CALL g (I x :: caps) = some (B (p x), [])) (hc : Shut caps) (b : Bool) (cap : Option Nat) (xs : List Int) (hx : (xs.length : Int) ≤ 9223372036854775806) :
    ∀ (r : List Int) (i : Nat), xs.drop i = r → lp E0 pr0 78 2 ⟨[(0, SL b cap xs.length (ints xs)), (1, .fn g caps), (7, I xs.length), (8, I i)], [], 0⟩ =
      if r.any p = true then some (.ret, ⟨[(4, I (i + r.findIdx p))], [], 0⟩) else some (.exit 0, ⟨[], [], 0⟩) := by
  intro r
  induction r with
  | nil =>
    intro i hi
    have h1 := drop_nil hi
    have h2 : ¬ (i : Int) < xs.length := by omega
    rw [lp_eq lp78_2]
    simp (config := { maxSteps := 1000000 }) (disch := omega) only [push_cast, ↓reduceIte, Nat.reduceEqDiff, Nat.reduceAdd, Nat.reduceLT, Nat.reduceLeDiff, Nat.reduceBEq, Nat.reduceMul, Nat.reduceSub, Int.reduceToNat, Int.reduceEq, Int.reduceLT, Int.reduceLE, Int.reduceNeg, Int.reduceAdd, Int.reduceSub, Int.reduceMul, Try.f78, kr78, kp78_2, ow78_2, ty3, ty28, h2]
    simp
  | cons x r ih =>
    intro i hi
    obtain ⟨h1, h2, h3⟩ := drop_cons hi
    have h4 : (i : Int) < xs.length := by omega
    have ih' := ih (i + 1) h3
    simp only [cast1] at ih'
    rw [lp_eq lp78_2]
    simp (config := { maxSteps := 1000000 }) (disch := omega) only [push_cast, ↓reduceIte, Nat.reduceEqDiff, Nat.reduceAdd, Nat.reduceLT, Nat.reduceLeDiff, Nat.reduceBEq, Nat.reduceMul, Nat.reduceSub, Int.reduceToNat, Int.reduceEq, Int.reduceLT, Int.reduceLE, Int.reduceNeg, Int.reduceAdd, Int.reduceSub, Int.reduceMul, Try.f78, kr78, kp78_2, ow78_2, ty3, ty28, shut_snap _ hc, shut_foc _ _ _ hc, map_nrm, hg, h1, h4, getD_of h2, ih']
    rw [List.any_cons, List.findIdx_cons]
    cases p x with
    | true => simp
    | false =>
      simp only [Bool.false_eq_true, if_false, Bool.false_or, cond_false, cast1]
      split <;> simp <;> omega
theorem c_IndexFunc (g : FuncId) (caps : List T) (p : Int → Bool) (hg : ∀ x, CALL g (I x :: caps) = some (B (p x), [])) (hc : Shut caps) (b : Bool) (cap : Option Nat) (xs : List Int) (hx : (xs.length : Int) ≤ 9223372036854775806) :
    CALL 78 [SL b cap xs.length (ints xs), .fn g caps] = some (I (if xs.any p then (xs.findIdx p : Int) else -1), []) := by
  have h := l_IndexFunc g caps p hg hc b cap xs hx xs 0 rfl
  simp only [Int.natCast_zero, Int.zero_add] at h
  refine lim_run (fn := Try.f78) fn78 rfl body78 (Nat.le_of_ble_eq_true rfl) ok78 ?_
  simp (config := { maxSteps := 1000000 }) (disch := omega) only [push_cast, ↓reduceIte, Nat.reduceEqDiff, Nat.reduceAdd, Nat.reduceLT, Nat.reduceLeDiff, Nat.reduceBEq, Nat.reduceMul, Nat.reduceSub, Int.reduceToNat, Int.reduceEq, Int.reduceLT, Int.reduceLE, Int.reduceNeg, Int.reduceAdd, Int.reduceSub, Int.reduceMul, Try.f78, kr78, kp78_2, ow78_2, ty3, ty28, shut_snap _ hc, shut_foc _ _ _ hc, map_nrm, hg, h]
  split <;> rfl
theorem c_ContainsFunc (g : FuncId) (caps : List T) (p : Int → Bool) (hg : ∀ x, CALL g (I x :: caps) = some (B (p x), [])) (hc : Shut caps) (b : Bool) (cap : Option Nat) (xs : List Int) (hx : (xs.length : Int) ≤ 9223372036854775806) :
    CALL 51 [SL b cap xs.length (ints xs), .fn g caps] = some (B (xs.any p), []) := by
  have h := c_IndexFunc g caps p hg hc b cap xs hx
  refine lim_run (fn := Try.f51) fn51 rfl body51 (Nat.le_of_ble_eq_true rfl) ok51 ?_
  simp (config := { maxSteps := 1000000 }) (disch := omega) only [push_cast, ↓reduceIte, Nat.reduceEqDiff, Nat.reduceAdd, Nat.reduceLT, Nat.reduceLeDiff, Nat.reduceBEq, Nat.reduceMul, Nat.reduceSub, Int.reduceToNat, Int.reduceEq, Int.reduceLT, Int.reduceLE, Int.reduceNeg, Int.reduceAdd, Int.reduceSub, Int.reduceMul, Try.f51, kr51, ty4, tb4, shut_snap _ hc, shut_foc _ _ _ hc, map_nrm, h]
  by_cases h : xs.any p = true <;> simp [h]
end Go.Proofs.Ytnbijiopcgfmfaa.Tev
