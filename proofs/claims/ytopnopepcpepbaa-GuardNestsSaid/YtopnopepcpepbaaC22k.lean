/- The document's first: where no loop is left. -/
import Derived.Test.YtopnopepcpepbaaC22j
namespace Go.Proofs.Ytopnopepcpepbaa.Tev
open Go Go.RowKit Go.Proofs Go.Proofs.Ytopnopepcpepbaa.Q
set_option linter.unusedSectionVars false
set_option maxRecDepth 100000
set_option maxHeartbeats 0
set_option linter.unusedSimpArgs false
set_option linter.unusedVariables false
theorem r_first0 (q b bg : Bool) (c ca cg : Option Nat) (l : List TriP) (a g : List Int) (x low high : Int) (hl : l.length ≤ 3) (hg : g.length = l.length) :
    CALL 41 [TrsT q c l, SL b ca a.length (ints a), I x, I low, I high, SL bg cg g.length (ints g)] = some (.sl 0 0 (if x < low ∨ high < x then g else []).length 1 none, [ints (if x < low ∨ high < x then g else [])]) := by
  have h1 : (g.length : Int) = l.length := by omega
  refine lim_run (fn := Try.f41) fn41 rfl body41 (Nat.le_of_ble_eq_true rfl) ok41 ?_
  by_cases h2 : x < low
  · rw [if_pos (.inl h2)]
    simp (config := { maxSteps := 1000000 }) (disch := omega) only [push_cast, ↓reduceIte, Nat.reduceEqDiff, Nat.reduceAdd, Nat.reduceLT, Nat.reduceLeDiff, Nat.reduceBEq, Nat.reduceMul, Nat.reduceSub, Int.reduceToNat, Int.reduceEq, Int.reduceLT, Int.reduceLE, Int.reduceNeg, Int.reduceAdd, Int.reduceSub, Int.reduceMul, Try.f41, kr41, kp41_7, ow41_7, ty3, ty25, ty41, ty45, h1, h2]
  · by_cases h3 : high < x
    · rw [if_pos (.inr h3)]
      simp (config := { maxSteps := 1000000 }) (disch := omega) only [push_cast, ↓reduceIte, Nat.reduceEqDiff, Nat.reduceAdd, Nat.reduceLT, Nat.reduceLeDiff, Nat.reduceBEq, Nat.reduceMul, Nat.reduceSub, Int.reduceToNat, Int.reduceEq, Int.reduceLT, Int.reduceLE, Int.reduceNeg, Int.reduceAdd, Int.reduceSub, Int.reduceMul, Try.f41, kr41, kp41_7, ow41_7, ty3, ty25, ty41, ty45, h1, h2, h3]
    · rw [if_neg (fun h => by omega)]
      simp (config := { maxSteps := 1000000 }) (disch := omega) only [push_cast, ↓reduceIte, Nat.reduceEqDiff, Nat.reduceAdd, Nat.reduceLT, Nat.reduceLeDiff, Nat.reduceBEq, Nat.reduceMul, Nat.reduceSub, Int.reduceToNat, Int.reduceEq, Int.reduceLT, Int.reduceLE, Int.reduceNeg, Int.reduceAdd, Int.reduceSub, Int.reduceMul, Try.f41, kr41, kp41_7, ow41_7, ty3, ty25, ty41, ty45, h1, h2, h3]
end Go.Proofs.Ytopnopepcpepbaa.Tev
