/- guard.FirstNest: its first loop; the document's none. -/
import Derived.Test.YtopnopepcpepbaaC22g
namespace Go.Proofs.Ytopnopepcpepbaa.Tev
open Go Go.RowKit Go.Proofs Go.Proofs.Ytopnopepcpepbaa.Q
set_option linter.unusedSectionVars false
set_option maxRecDepth 100000
set_option maxHeartbeats 0
set_option linter.unusedSimpArgs false
set_option linter.unusedVariables false
section
variable (q : Bool) (c : Option Nat) (l : List TriP) (b : Bool) (ca : Option Nat) (a : List Int) (x low high : Int)
theorem rl_none2 (hl : l.length ≤ 3) (hz : ∀ t ∈ l, t.2.2 ≠ 0) (hn : ∀ t ∈ l, nearT t) : ∀ (r : List TriP) (i : Nat), l.drop i = r →
    lp E0 pr0 48 2 ⟨[(0, TrsT q c l), (3, I i)], [], 0⟩ = if noneT r = true then some (.ret, ⟨[(2, B true)], [], 0⟩) else some (.exit 0, ⟨[], [], 0⟩) := by
  intro r
  induction r with
  | nil =>
    intro i h1
    have h5 := drop_nil h1
    have h6 : ¬ (i : Int) < l.length := by omega
    rw [lp_eq lp48_2]
    simp (config := { maxSteps := 1000000 }) (disch := omega) only [push_cast, ↓reduceIte, Nat.reduceEqDiff, Nat.reduceAdd, Nat.reduceLT, Nat.reduceLeDiff, Nat.reduceBEq, Nat.reduceMul, Nat.reduceSub, Int.reduceToNat, Int.reduceEq, Int.reduceLT, Int.reduceLE, Int.reduceNeg, Int.reduceAdd, Int.reduceSub, Int.reduceMul, Try.f48, kr48, kp48_2, ow48_2, ty3, ty4, ty25, ty45, tb4, h6]
    simp [noneT]
  | cons t r ih =>
    intro i h1
    obtain ⟨g1, g2, g3⟩ := drop_cons h1
    have g8 : (i : Int) < l.length := by omega
    have h0 := hz t (List.mem_of_getElem? g2)
    have hx := hn t (List.mem_of_getElem? g2)
    have ht := r_turns t.1 t.2.1 t.2.2 h0 hx.1 hx.2.1 hx.2.2
    change CALL _ _ = some (I (cntT t), []) at ht
    have eN : noneT (t :: r) = (decide (cntT t = 0) || noneT r) := by unfold noneT; rw [List.any_cons]
    have ih' := ih (i + 1) g3
    simp only [cast1, List.length_append, List.length_cons, List.length_nil, Nat.zero_add, Nat.add_zero, Int.natCast_zero, Int.natCast_add, Int.zero_add, ints_1, ints_0, ] at ih'
    rw [eN]
    rw [lp_eq lp48_2]
    by_cases hc : cntT t = 0
    · simp (config := { maxSteps := 1000000 }) (disch := omega) only [push_cast, ↓reduceIte, Nat.reduceEqDiff, Nat.reduceAdd, Nat.reduceLT, Nat.reduceLeDiff, Nat.reduceBEq, Nat.reduceMul, Nat.reduceSub, Int.reduceToNat, Int.reduceEq, Int.reduceLT, Int.reduceLE, Int.reduceNeg, Int.reduceAdd, Int.reduceSub, Int.reduceMul, Try.f48, kr48, kp48_2, ow48_2, ty3, ty4, ty25, ty45, tb4, g1, g8, tr0 g2, tr1 g2, tr2 g2, ht, hc]
    · rw [decide_eq_false hc, Bool.false_or]
      simp (config := { maxSteps := 1000000 }) (disch := omega) only [push_cast, ↓reduceIte, Nat.reduceEqDiff, Nat.reduceAdd, Nat.reduceLT, Nat.reduceLeDiff, Nat.reduceBEq, Nat.reduceMul, Nat.reduceSub, Int.reduceToNat, Int.reduceEq, Int.reduceLT, Int.reduceLE, Int.reduceNeg, Int.reduceAdd, Int.reduceSub, Int.reduceMul, Try.f48, kr48, kp48_2, ow48_2, ty3, ty4, ty25, ty45, tb4, g1, g8, tr0 g2, tr1 g2, tr2 g2, ht, hc, ih']
theorem r_none (hl : l.length ≤ 3) (hz : ∀ t ∈ l, t.2.2 ≠ 0) (hn : ∀ t ∈ l, nearT t) : CALL 48 [TrsT q c l] = some (B (noneT l), []) := by
  have h := rl_none2 q c l hl hz hn l 0 rfl
  simp only [cast1, List.length_append, List.length_cons, List.length_nil, Nat.zero_add, Nat.add_zero, Int.natCast_zero, Int.natCast_add, Int.zero_add, ints_1, ints_0, ] at h
  refine lim_run (fn := Try.f48) fn48 rfl body48 (Nat.le_of_ble_eq_true rfl) ok48 ?_
  cases hno : noneT l with
  | true =>
    rw [hno, if_pos rfl] at h
    simp (config := { maxSteps := 1000000 }) (disch := omega) only [push_cast, ↓reduceIte, Nat.reduceEqDiff, Nat.reduceAdd, Nat.reduceLT, Nat.reduceLeDiff, Nat.reduceBEq, Nat.reduceMul, Nat.reduceSub, Int.reduceToNat, Int.reduceEq, Int.reduceLT, Int.reduceLE, Int.reduceNeg, Int.reduceAdd, Int.reduceSub, Int.reduceMul, Try.f48, kr48, kp48_2, ow48_2, ty3, ty4, ty25, ty45, tb4, h]
  | false =>
    rw [hno] at h
    simp only [Bool.false_eq_true, if_false] at h
    simp (config := { maxSteps := 1000000 }) (disch := omega) only [push_cast, ↓reduceIte, Nat.reduceEqDiff, Nat.reduceAdd, Nat.reduceLT, Nat.reduceLeDiff, Nat.reduceBEq, Nat.reduceMul, Nat.reduceSub, Int.reduceToNat, Int.reduceEq, Int.reduceLT, Int.reduceLE, Int.reduceNeg, Int.reduceAdd, Int.reduceSub, Int.reduceMul, Try.f48, kr48, kp48_2, ow48_2, ty3, ty4, ty25, ty45, tb4, h]
theorem l_FirstNest6 (hl : l.length ≤ 3) (hz : ∀ t ∈ l, t.2.2 ≠ 0) (hn : ∀ t ∈ l, nearT t) : ∀ (r : List TriP) (i : Nat) (n : Int), l.drop i = r → 0 ≤ n → n ≤ P3 i →
    lp E0 pr0 23 6 ⟨[(0, TrsT q c l), (1, SL b ca a.length (ints a)), (2, I x), (3, I low), (4, I high), (13, I n), (32, TrsT q c l), (33, I l.length), (34, I i)], [], 0⟩ =
      some (.exit 0, ⟨[(0, TrsT q c l), (1, SL b ca a.length (ints a)), (2, I x), (3, I low), (4, I high), (13, I (n * prodT r))], [], 0⟩) := by
  intro r
  induction r with
  | nil =>
    intro i n h1 h2 h3
    have h5 := drop_nil h1
    have h6 : ¬ (i : Int) < l.length := by omega
    rw [lp_eq lp23_6]
    simp (config := { maxSteps := 1000000 }) (disch := omega) only [push_cast, ↓reduceIte, Nat.reduceEqDiff, Nat.reduceAdd, Nat.reduceLT, Nat.reduceLeDiff, Nat.reduceBEq, Nat.reduceMul, Nat.reduceSub, Int.reduceToNat, Int.reduceEq, Int.reduceLT, Int.reduceLE, Int.reduceNeg, Int.reduceAdd, Int.reduceSub, Int.reduceMul, Try.f23, kr23, kp23_16, kp23_11, kp23_6, ow23_16, ow23_11, ow23_6, ty3, ty25, ty26, ty41, ty45, h6, prodT, Int.mul_one]
  | cons t r ih =>
    intro i n h1 h2 h3
    obtain ⟨g1, g2, g3⟩ := drop_cons h1
    have g8 : (i : Int) < l.length := by omega
    have h0 := hz t (List.mem_of_getElem? g2)
    have hx := hn t (List.mem_of_getElem? g2)
    have ht := c_turns t.1 t.2.1 t.2.2
    rw [if_pos (okT_near h0 hx.1 hx.2.1 hx.2.2)] at ht
    change CALL _ _ = some (I (cntT t), []) at ht
    obtain ⟨c0, c1⟩ := cntT_bd h0 hx
    obtain ⟨p0, p1⟩ := P3_step (n := i) (by omega) h2 h3 c0 c1
    have p2 := P3_le (i + 1)
    have ih' := ih (i + 1) (n * cntT t) g3 p0 p1
    have eP : n * cntT t * prodT r = n * prodT (t :: r) := by rw [prodT, Int.mul_assoc]
    rw [eP] at ih'
    simp only [cast1, List.length_append, List.length_cons, List.length_nil, Nat.zero_add, Nat.add_zero, Int.natCast_zero, Int.natCast_add, Int.zero_add, ints_1, ints_0, ] at ih'
    rw [lp_eq lp23_6]
    simp (config := { maxSteps := 1000000 }) (disch := omega) only [push_cast, ↓reduceIte, Nat.reduceEqDiff, Nat.reduceAdd, Nat.reduceLT, Nat.reduceLeDiff, Nat.reduceBEq, Nat.reduceMul, Nat.reduceSub, Int.reduceToNat, Int.reduceEq, Int.reduceLT, Int.reduceLE, Int.reduceNeg, Int.reduceAdd, Int.reduceSub, Int.reduceMul, Try.f23, kr23, kp23_16, kp23_11, kp23_6, ow23_16, ow23_11, ow23_6, ty3, ty25, ty26, ty41, ty45, g1, g8, tr0 g2, tr1 g2, tr2 g2, ht, ih']
/-- The turn of the loops from the last one on: digits of n; what is left over. -/
def varsN : List TriP → Int → List Int × Int
  | [], n => ([], n)
  | t :: r, n => let s := varsN r n; ((t.1 + Int.tmod s.2 (cntT t) * t.2.2) :: s.1, Int.tdiv s.2 (cntT t))
def sumN : List Int → List Int → Int
  | y :: a, v :: w => y * v + sumN a w
  | _, _ => 0
end
end Go.Proofs.Ytopnopepcpepbaa.Tev
