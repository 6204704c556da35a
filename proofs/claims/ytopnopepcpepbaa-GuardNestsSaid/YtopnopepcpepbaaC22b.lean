/- The document's small functions of layer 22. -/
import Derived.Test.YtopnopepcpepbaaC22a
namespace Go.Proofs.Ytopnopepcpepbaa.Tev
open Go Go.RowKit Go.Proofs Go.Proofs.Ytopnopepcpepbaa.Q
set_option linter.unusedSectionVars false
set_option maxRecDepth 100000
set_option maxHeartbeats 0
set_option linter.unusedSimpArgs false
set_option linter.unusedVariables false
theorem rl_near2 (b : Bool) (c : Option Nat) (l : List Int) (hl : (l.length : Int) ≤ 9223372036854775806) : ∀ (r : List Int) (i : Nat), l.drop i = r →
    lp E0 pr0 38 2 ⟨[(0, SL b c l.length (ints l)), (3, I i)], [], 0⟩ = if allN r then some (.exit 0, ⟨[], [], 0⟩) else some (.ret, ⟨[(2, B false)], [], 0⟩) := by
  intro r
  induction r with
  | nil =>
    intro i h1
    have h5 := drop_nil h1
    have h6 : ¬ (i : Int) < l.length := by omega
    rw [if_pos (show allN [] from fun x hx => by simp at hx)]
    rw [lp_eq lp38_2]
    simp (config := { maxSteps := 1000000 }) (disch := omega) only [push_cast, ↓reduceIte, Nat.reduceEqDiff, Nat.reduceAdd, Nat.reduceLT, Nat.reduceLeDiff, Nat.reduceBEq, Nat.reduceMul, Nat.reduceSub, Int.reduceToNat, Int.reduceEq, Int.reduceLT, Int.reduceLE, Int.reduceNeg, Int.reduceAdd, Int.reduceSub, Int.reduceMul, Try.f38, kr38, kp38_2, ow38_2, ty3, ty4, ty41, tb4, h6]
  | cons x r ih =>
    intro i h1
    obtain ⟨g1, g2, g3⟩ := drop_cons h1
    have g8 : (i : Int) < l.length := by omega
    have ih' := ih (i + 1) g3
    simp only [cast1, List.length_append, List.length_cons, List.length_nil, Nat.zero_add, Nat.add_zero, Int.natCast_zero, Int.natCast_add, Int.zero_add, ints_1, ints_0, ] at ih'
    have e : allN (x :: r) ↔ near x ∧ allN r := by unfold allN; simp
    rw [lp_eq lp38_2]
    by_cases h1 : x < -1000000
    · have hn : ¬ allN (x :: r) := fun h => by have := (e.1 h).1; unfold near at this; omega
      rw [if_neg hn]
      simp (config := { maxSteps := 1000000 }) (disch := omega) only [push_cast, ↓reduceIte, Nat.reduceEqDiff, Nat.reduceAdd, Nat.reduceLT, Nat.reduceLeDiff, Nat.reduceBEq, Nat.reduceMul, Nat.reduceSub, Int.reduceToNat, Int.reduceEq, Int.reduceLT, Int.reduceLE, Int.reduceNeg, Int.reduceAdd, Int.reduceSub, Int.reduceMul, Try.f38, kr38, kp38_2, ow38_2, ty3, ty4, ty41, tb4, g1, g8, getD_of g2, h1]
    · by_cases h2 : 1000000 < x
      · have hn : ¬ allN (x :: r) := fun h => by have := (e.1 h).1; unfold near at this; omega
        rw [if_neg hn]
        simp (config := { maxSteps := 1000000 }) (disch := omega) only [push_cast, ↓reduceIte, Nat.reduceEqDiff, Nat.reduceAdd, Nat.reduceLT, Nat.reduceLeDiff, Nat.reduceBEq, Nat.reduceMul, Nat.reduceSub, Int.reduceToNat, Int.reduceEq, Int.reduceLT, Int.reduceLE, Int.reduceNeg, Int.reduceAdd, Int.reduceSub, Int.reduceMul, Try.f38, kr38, kp38_2, ow38_2, ty3, ty4, ty41, tb4, g1, g8, getD_of g2, h1, h2]
      · have hx : near x := ⟨by omega, by omega⟩
        have e' : (if allN (x :: r) then some (Ex.exit 0, (⟨[], [], 0⟩ : St)) else some (Ex.ret, ⟨[(2, B false)], [], 0⟩)) = if allN r then some (Ex.exit 0, ⟨[], [], 0⟩) else some (Ex.ret, ⟨[(2, B false)], [], 0⟩) := by
          by_cases hr : allN r
          · rw [if_pos hr, if_pos (e.2 ⟨hx, hr⟩)]
          · rw [if_neg hr, if_neg fun h => hr (e.1 h).2]
        rw [e']
        simp (config := { maxSteps := 1000000 }) (disch := omega) only [push_cast, ↓reduceIte, Nat.reduceEqDiff, Nat.reduceAdd, Nat.reduceLT, Nat.reduceLeDiff, Nat.reduceBEq, Nat.reduceMul, Nat.reduceSub, Int.reduceToNat, Int.reduceEq, Int.reduceLT, Int.reduceLE, Int.reduceNeg, Int.reduceAdd, Int.reduceSub, Int.reduceMul, Try.f38, kr38, kp38_2, ow38_2, ty3, ty4, ty41, tb4, g1, g8, getD_of g2, h1, h2, ih']
theorem r_near (b : Bool) (c : Option Nat) (l : List Int) (hl : (l.length : Int) ≤ 9223372036854775806) : CALL 38 [SL b c l.length (ints l)] = some (B (decide (allN l)), []) := by
  have h := rl_near2 b c l hl l 0 rfl
  simp only [cast1, List.length_append, List.length_cons, List.length_nil, Nat.zero_add, Nat.add_zero, Int.natCast_zero, Int.natCast_add, Int.zero_add, ints_1, ints_0, ] at h
  refine lim_run (fn := Try.f38) fn38 rfl body38 (Nat.le_of_ble_eq_true rfl) ok38 ?_
  by_cases hn : allN l
  · rw [if_pos hn] at h
    simp (config := { maxSteps := 1000000 }) (disch := omega) only [push_cast, ↓reduceIte, Nat.reduceEqDiff, Nat.reduceAdd, Nat.reduceLT, Nat.reduceLeDiff, Nat.reduceBEq, Nat.reduceMul, Nat.reduceSub, Int.reduceToNat, Int.reduceEq, Int.reduceLT, Int.reduceLE, Int.reduceNeg, Int.reduceAdd, Int.reduceSub, Int.reduceMul, Try.f38, kr38, kp38_2, ow38_2, ty3, ty4, ty41, tb4, h, hn]
  · rw [if_neg hn] at h
    simp (config := { maxSteps := 1000000 }) (disch := omega) only [push_cast, ↓reduceIte, Nat.reduceEqDiff, Nat.reduceAdd, Nat.reduceLT, Nat.reduceLeDiff, Nat.reduceBEq, Nat.reduceMul, Nat.reduceSub, Int.reduceToNat, Int.reduceEq, Int.reduceLT, Int.reduceLE, Int.reduceNeg, Int.reduceAdd, Int.reduceSub, Int.reduceMul, Try.f38, kr38, kp38_2, ow38_2, ty3, ty4, ty41, tb4, h, hn]
theorem r_turns (lo hi st : Int) (hs : st ≠ 0) (n1 : near lo) (n2 : near hi) (n3 : near st) : CALL 28 [Tri lo hi st] = some (I (cnt lo hi st), []) := by
  have hw := tdiv_w (okT_near hs n1 n2 n3)
  unfold near at n1 n2 n3
  unfold cnt
  refine lim_run (fn := Try.f28) fn28 rfl body28 (Nat.le_of_ble_eq_true rfl) ok28 ?_
  simp (config := { maxSteps := 1000000 }) (disch := omega) only [push_cast, ↓reduceIte, Nat.reduceEqDiff, Nat.reduceAdd, Nat.reduceLT, Nat.reduceLeDiff, Nat.reduceBEq, Nat.reduceMul, Nat.reduceSub, Int.reduceToNat, Int.reduceEq, Int.reduceLT, Int.reduceLE, Int.reduceNeg, Int.reduceAdd, Int.reduceSub, Int.reduceMul, Try.f28, kr28, ty3, ty25, hs, hw]
end Go.Proofs.Ytopnopepcpepbaa.Tev
