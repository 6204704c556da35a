/- section.Whole. -/
import Derived.Test.YtochkebkfoophaaCSec
namespace Go.Proofs.Ytochkebkfoophaa.Tev
open Go Go.RowKit Go.Proofs Go.Proofs.Ytochkebkfoophaa.Q
set_option linter.unusedSectionVars false
set_option maxRecDepth 100000
set_option maxHeartbeats 0
set_option linter.unusedSimpArgs false
set_option linter.unusedVariables false
theorem l_Whole (b : Bool) (c : Option Nat) (E : List Int) (hE : exts E) : ∀ (r : List Int) (i : Nat) (a : Int) (st : List Int), E.drop i = r → 0 ≤ a → a ≤ B4 i → st.length = i →
    lp E0 pr0 33 6 ⟨[(2, .pt 0 0), (4, .pt 3 0), (5, I a), (15, SL b c E.length (ints E)), (16, I E.length), (17, I i)],
        [(0, .box [I 0, .c (.s (some 0) 0 []), .c (.s (some 0) 0 [])]), (1, .arr (ints E) 1 1), (2, .arr (ints st) 2 1), (3, .box [I 0, .sl 1 0 E.length 1 none, .sl 2 0 st.length 1 none])], 4⟩ =
      some (.exit 0, ⟨[(2, .pt 0 0), (4, .pt 3 0)],
        [(0, .box [I 0, .c (.s (some 0) 0 []), .c (.s (some 0) 0 [])]), (1, .arr (ints E) 1 1), (2, .arr (ints (st ++ wholeS a r)) 2 1), (3, .box [I 0, .sl 1 0 E.length 1 none, .sl 2 0 (st ++ wholeS a r).length 1 none])], 4⟩) := by
  intro r
  have hl := hE.1
  induction r with
  | nil =>
    intro i a st h1 h2 h3 h4
    have h5 := drop_nil h1
    have h6 : ¬ (i : Int) < E.length := by omega
    rw [lp_eq lp33_6]
    simp (config := { maxSteps := 1000000 }) (disch := omega) only [push_cast, ↓reduceIte, Nat.reduceEqDiff, Nat.reduceAdd, Nat.reduceLT, Nat.reduceLeDiff, Nat.reduceBEq, Nat.reduceMul, Nat.reduceSub, Int.reduceToNat, Int.reduceEq, Int.reduceLT, Int.reduceLE, Int.reduceNeg, Int.reduceAdd, Int.reduceSub, Int.reduceMul, Try.f33, kr33, kp33_6, ow33_6, ty3, ty22, ty27, ty34, h6, wholeS, List.append_nil]
  | cons x r ih =>
    intro i a st h1 h2 h3 h4
    obtain ⟨g1, g2, g3⟩ := drop_cons h1
    have g8 : (i : Int) < E.length := by omega
    obtain ⟨e0, e1⟩ := hE.2 x (List.mem_of_getElem? g2)
    obtain ⟨p0, p1⟩ := B4_step (n := i) (by omega) h2 h3 e0 e1
    have p2 := B4_le (i + 1)
    have e : st ++ [a] ++ wholeS (a * x) r = st ++ wholeS a (x :: r) := by simp [wholeS]
    have ih' := ih (i + 1) (a * x) (st ++ [a]) g3 p0 p1 (by simp [h4])
    rw [e] at ih'
    simp only [cast1, List.length_append, List.length_cons, List.length_nil, Nat.zero_add, Nat.add_zero, Int.natCast_zero, Int.natCast_add, Int.zero_add, ints_1, ints_0, ] at ih'
    rw [lp_eq lp33_6]
    simp (config := { maxSteps := 1000000 }) (disch := omega) only [push_cast, ↓reduceIte, Nat.reduceEqDiff, Nat.reduceAdd, Nat.reduceLT, Nat.reduceLeDiff, Nat.reduceBEq, Nat.reduceMul, Nat.reduceSub, Int.reduceToNat, Int.reduceEq, Int.reduceLT, Int.reduceLE, Int.reduceNeg, Int.reduceAdd, Int.reduceSub, Int.reduceMul, Try.f33, kr33, kp33_6, ow33_6, ty3, ty22, ty27, ty34, g1, g8, getD_of g2, ih']
theorem c_Whole (b : Bool) (c : Option Nat) (E : List Int) (hE : (E.length : Int) ≤ 9223372036854775806) :
    CALL 33 [SL b c E.length (ints E)] = some (.tup [.agg [I 0, .sl 0 0 (wholeE E).length 1 none, .sl 1 0 (wholeT E).length 1 none], I (errE E)], [ints (wholeE E), ints (wholeT E)]) := by
  unfold wholeE wholeT errE
  refine lim_run (fn := Try.f33) fn33 rfl body33 (Nat.le_of_ble_eq_true rfl) ok33 ?_
  by_cases h : okE E
  · have h0 : ¬ sizeQ E < 0 := fun q => size_neg.1 q h
    have h2 := h.1.1
    have hl := l_Whole b c E h.1 E 0 1 [] rfl (by omega) (by simp [B4]) rfl
    rw [List.nil_append] at hl
    simp only [cast1, List.length_append, List.length_cons, List.length_nil, Nat.zero_add, Nat.add_zero, Int.natCast_zero, Int.natCast_add, Int.zero_add, ints_1, ints_0, ] at hl
    simp (config := { maxSteps := 1000000 }) (disch := omega) only [push_cast, ↓reduceIte, Nat.reduceEqDiff, Nat.reduceAdd, Nat.reduceLT, Nat.reduceLeDiff, Nat.reduceBEq, Nat.reduceMul, Nat.reduceSub, Int.reduceToNat, Int.reduceEq, Int.reduceLT, Int.reduceLE, Int.reduceNeg, Int.reduceAdd, Int.reduceSub, Int.reduceMul, Try.f33, kr33, kp33_6, ow33_6, ty3, ty22, ty27, ty34, c_size, h0, h, c_Clone, hl]
  · have h0 : sizeQ E < 0 := size_neg.2 h
    simp (config := { maxSteps := 1000000 }) (disch := omega) only [push_cast, ↓reduceIte, Nat.reduceEqDiff, Nat.reduceAdd, Nat.reduceLT, Nat.reduceLeDiff, Nat.reduceBEq, Nat.reduceMul, Nat.reduceSub, Int.reduceToNat, Int.reduceEq, Int.reduceLT, Int.reduceLE, Int.reduceNeg, Int.reduceAdd, Int.reduceSub, Int.reduceMul, Try.f33, kr33, kp33_6, ow33_6, ty3, ty22, ty27, ty34, c_size, h0, h]
end Go.Proofs.Ytochkebkfoophaa.Tev
