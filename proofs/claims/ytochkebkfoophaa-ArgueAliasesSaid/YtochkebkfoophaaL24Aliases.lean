/- The law ArgueAliases: what it returns for any arguments. -/
import Derived.Test.YtochkebkfoophaaC24v
import Derived.Test.YtochkebkfoophaaL24Packs
namespace Go.Proofs.Ytochkebkfoophaa.Tev
open Go Go.RowKit Go.Proofs Go.Proofs.Ytochkebkfoophaa.Q
set_option linter.unusedSectionVars false
set_option maxRecDepth 100000
set_option maxHeartbeats 0
set_option linter.unusedSimpArgs false
set_option linter.unusedVariables false
theorem awake1 : CALL1 10 [] = some (B true, []) := old1 (by decide) c_Awake
theorem ArgueAliases_true' (l : List PassQ) (hb : ∀ p ∈ l, bdP p) (hl : (l.length : Int) ≤ 9223372036854775806) : CALL1 7 [PsT true none l] = some (B true, []) := by
  have hL := old1 (by decide) (c_Large true true none (some 0) [] l)
  have h1 := c_Alias true l hb hl
  have h2 := old1 (by decide) (r_Alias true none l hb hl)
  simp only [PsT, List.length_nil, ints_0, Int.natCast_zero, show decide (20000 < (0 : Int)) = false by decide, Bool.false_or] at hL
  refine lim_run (fn := Try.f7) fn7 (pr1_none (by decide) _) body7 (Nat.le_of_ble_eq_true rfl) ok7 ?_
  by_cases h : 20 < (l.length : Int)
  · simp (config := { maxSteps := 1000000 }) (disch := omega) only [push_cast, ↓reduceIte, Nat.reduceEqDiff, Nat.reduceAdd, Nat.reduceLT, Nat.reduceLeDiff, Nat.reduceBEq, Nat.reduceMul, Nat.reduceSub, Int.reduceToNat, Int.reduceEq, Int.reduceLT, Int.reduceLE, Int.reduceNeg, Int.reduceAdd, Int.reduceSub, Int.reduceMul, Try.f7, kr7, ty4, tb4, hL, h, awake1]
  · simp (config := { maxSteps := 1000000 }) (disch := omega) only [push_cast, ↓reduceIte, Nat.reduceEqDiff, Nat.reduceAdd, Nat.reduceLT, Nat.reduceLeDiff, Nat.reduceBEq, Nat.reduceMul, Nat.reduceSub, Int.reduceToNat, Int.reduceEq, Int.reduceLT, Int.reduceLE, Int.reduceNeg, Int.reduceAdd, Int.reduceSub, Int.reduceMul, Try.f7, kr7, ty4, tb4, hL, h, h1, h2, awake1]
def okPass2 (p : PassQ) : Prop := okDscQ p.1 ∧ p.2.1.size ≤ 140737488351232 ∧ True
theorem ArgueAliases_true (l : List PassQ) (hl : l.length * 80 ≤ 140737488351232 ∧ ∀ p ∈ l, okPass2 p) : CALL1 7 [PsT true none l] = some (B true, []) :=
  ArgueAliases_true' l (fun p hp => ⟨(hl.2 p hp).1.1.2, len_bd (hl.2 p hp).1.2.1.1, len_bd (hl.2 p hp).1.2.2.1⟩) (by omega)
end Go.Proofs.Ytochkebkfoophaa.Tev
