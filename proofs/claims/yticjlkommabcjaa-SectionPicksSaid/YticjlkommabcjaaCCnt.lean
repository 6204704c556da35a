/- section.Count. -/
import Derived.Test.YticjlkommabcjaaCNum
namespace Go.Proofs.Yticjlkommabcjaa.Tev
open Go Go.RowKit Go.Proofs Go.Proofs.Yticjlkommabcjaa.Q
set_option linter.unusedSectionVars false
set_option maxRecDepth 100000
set_option maxHeartbeats 0
set_option linter.unusedSimpArgs false
set_option linter.unusedVariables false
theorem tdiv_w {a b s : Int} (h : okT a b s) : IntKind.i64.wrap (Int.tdiv (b - a + s) s) = Int.tdiv (b - a + s) s := by
  obtain ⟨ha, hb, hs, h0⟩ := h
  have := tdiv_bd (b - a + s) s
  exact w64 (by omega) (by omega)
theorem c_Count (a b s : Int) : CALL 12 [.agg [I a, I b, I s]] = some (.tup [I (if okT a b s then cnt a b s else 0), I (if okT a b s then 0 else 2)], []) := by
  refine lim_run (fn := Try.f12) fn12 rfl body12 (Nat.le_of_ble_eq_true rfl) ok12 ?_
  by_cases h1 : nearS a
  · by_cases h2 : nearS b
    · by_cases h3 : nearS s
      · by_cases h4 : s = 0
        · subst h4
          have hk : ¬ okT a b 0 := fun h => h.2.2.2 rfl
          simp (config := { maxSteps := 1000000 }) (disch := omega) only [push_cast, ↓reduceIte, Nat.reduceEqDiff, Nat.reduceAdd, Nat.reduceLT, Nat.reduceLeDiff, Nat.reduceBEq, Nat.reduceMul, Nat.reduceSub, Int.reduceToNat, Int.reduceEq, Int.reduceLT, Int.reduceLE, Int.reduceNeg, Int.reduceAdd, Int.reduceSub, Int.reduceMul, Try.f12, kr12, ty3, ty23, ty24, c_isNumber, h1, h2, h3, hk]
        · have hk : okT a b s := ⟨h1, h2, h3, h4⟩
          have hw := tdiv_w hk
          have h1' := h1
          have h2' := h2
          have h3' := h3
          unfold nearS at h1' h2' h3'
          simp (config := { maxSteps := 1000000 }) (disch := omega) only [push_cast, ↓reduceIte, Nat.reduceEqDiff, Nat.reduceAdd, Nat.reduceLT, Nat.reduceLeDiff, Nat.reduceBEq, Nat.reduceMul, Nat.reduceSub, Int.reduceToNat, Int.reduceEq, Int.reduceLT, Int.reduceLE, Int.reduceNeg, Int.reduceAdd, Int.reduceSub, Int.reduceMul, Try.f12, kr12, ty3, ty23, ty24, c_isNumber, h1, h2, h3, h4, hk, hw]
          rfl
      · have hk : ¬ okT a b s := fun h => h3 h.2.2.1
        simp (config := { maxSteps := 1000000 }) (disch := omega) only [push_cast, ↓reduceIte, Nat.reduceEqDiff, Nat.reduceAdd, Nat.reduceLT, Nat.reduceLeDiff, Nat.reduceBEq, Nat.reduceMul, Nat.reduceSub, Int.reduceToNat, Int.reduceEq, Int.reduceLT, Int.reduceLE, Int.reduceNeg, Int.reduceAdd, Int.reduceSub, Int.reduceMul, Try.f12, kr12, ty3, ty23, ty24, c_isNumber, h1, h2, h3, hk]
    · have hk : ¬ okT a b s := fun h => h2 h.2.1
      simp (config := { maxSteps := 1000000 }) (disch := omega) only [push_cast, ↓reduceIte, Nat.reduceEqDiff, Nat.reduceAdd, Nat.reduceLT, Nat.reduceLeDiff, Nat.reduceBEq, Nat.reduceMul, Nat.reduceSub, Int.reduceToNat, Int.reduceEq, Int.reduceLT, Int.reduceLE, Int.reduceNeg, Int.reduceAdd, Int.reduceSub, Int.reduceMul, Try.f12, kr12, ty3, ty23, ty24, c_isNumber, h1, h2, hk]
  · have hk : ¬ okT a b s := fun h => h1 h.1
    simp (config := { maxSteps := 1000000 }) (disch := omega) only [push_cast, ↓reduceIte, Nat.reduceEqDiff, Nat.reduceAdd, Nat.reduceLT, Nat.reduceLeDiff, Nat.reduceBEq, Nat.reduceMul, Nat.reduceSub, Int.reduceToNat, Int.reduceEq, Int.reduceLT, Int.reduceLE, Int.reduceNeg, Int.reduceAdd, Int.reduceSub, Int.reduceMul, Try.f12, kr12, ty3, ty23, ty24, c_isNumber, h1, hk]
end Go.Proofs.Yticjlkommabcjaa.Tev
