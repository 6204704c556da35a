/- The sanity check of layer 24. -/
import Derived.Test.YtochkebkfoophaaC24d
namespace Go.Proofs.Ytochkebkfoophaa.Tev
open Go Go.RowKit Go.Proofs Go.Proofs.Ytochkebkfoophaa.Q
set_option linter.unusedSectionVars false
set_option maxRecDepth 100000
set_option maxHeartbeats 0
set_option linter.unusedSimpArgs false
set_option linter.unusedVariables false
abbrev aw1 : PassQ := ((0, [3], [2]), ByteArray.mk #[97, 117, 116, 111], false)
theorem aw_err : errEnt [1, 2, 3, 4, 5, 6] [aw1] = 0 := by decide
theorem aw_ent : entQ [1, 2, 3, 4, 5, 6] [aw1] ([1, 2, 3, 4, 5, 6], []) = ([1, 2, 3, 4, 5, 6, 1, 3, 5], [(6, [3], [1])]) := by decide
theorem c_Awake : CALL 10 [] = some (B true, []) := by
  have h1 := c_Enter false false (some 1) (some 6) [1, 2, 3, 4, 5, 6] [aw1] (by decide) (by intro p hp; simp at hp; subst hp; exact ⟨by decide, by decide, by decide⟩)
  unfold entR at h1
  rw [aw_err, if_pos rfl, aw_ent] at h1
  have h2 := r_SameInts false false none (some 9) [1, 2, 3, 4, 5, 6, 1, 3, 5] [1, 2, 3, 4, 5, 6, 1, 3, 5] (by decide)
  rw [decide_eq_true rfl] at h2
  refine lim_run (fn := Try.f10) fn10 rfl body10 (Nat.le_of_ble_eq_true rfl) ok10 ?_
  simp only [PsT, aw1, ints, List.map_cons, List.map_nil, List.flatMap_cons, List.flatMap_nil, passC, dscC, List.append_nil, List.length_cons, List.length_nil, Nat.zero_add, Nat.reduceAdd] at h1 h2
  have r1 : ∀ (x1 x2 x3 x4 x5 x6 : C), rowAt [x1, x2, x3, x4, x5, x6] 0 6 = [x1, x2, x3, x4, x5, x6] := fun _ _ _ _ _ _ => rfl
  have r2 : ∀ (x1 x2 x3 x4 x5 x6 x7 x8 x9 : C), rowAt [x1, x2, x3, x4, x5, x6, x7, x8, x9] 0 9 = [x1, x2, x3, x4, x5, x6, x7, x8, x9] := fun _ _ _ _ _ _ _ _ _ => rfl
  simp (config := { maxSteps := 1000000 }) (disch := omega) only [push_cast, ↓reduceIte, Nat.reduceEqDiff, Nat.reduceAdd, Nat.reduceLT, Nat.reduceLeDiff, Nat.reduceBEq, Nat.reduceMul, Nat.reduceSub, Int.reduceToNat, Int.reduceEq, Int.reduceLT, Int.reduceLE, Int.reduceNeg, Int.reduceAdd, Int.reduceSub, Int.reduceMul, Try.f10, kr10, ty3, ty4, ty9, ty22, ty23, ty26, ty34, ty36, tb4, h1, h2, r1, r2]
end Go.Proofs.Ytochkebkfoophaa.Tev
