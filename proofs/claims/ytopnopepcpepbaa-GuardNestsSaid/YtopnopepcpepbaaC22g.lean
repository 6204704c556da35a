/- guard.SafeNest. -/
import Derived.Test.YtopnopepcpepbaaC22f
namespace Go.Proofs.Ytopnopepcpepbaa.Tev
open Go Go.RowKit Go.Proofs Go.Proofs.Ytopnopepcpepbaa.Q
set_option linter.unusedSectionVars false
set_option maxRecDepth 100000
set_option maxHeartbeats 0
set_option linter.unusedSimpArgs false
set_option linter.unusedVariables false
def endT (t : TriP) : Int := t.1 + (cntT t - 1) * t.2.2
def leastN : List TriP → List Int → Int
  | t :: r, y :: q => mn (y * t.1) (y * endT t) + leastN r q
  | _, _ => 0
def greatN : List TriP → List Int → Int
  | t :: r, y :: q => mx (y * t.1) (y * endT t) + greatN r q
  | _, _ => 0
theorem endT_near {t : TriP} (h0 : t.2.2 ≠ 0) (h : nearT t) (hc : ¬ cntT t = 0) : near (endT t) := by
  have h2 : 0 ≤ cntT t := cnt_nonneg _ _ _
  exact near_turn h0 h.1 h.2.1 (show 0 ≤ cntT t - 1 by omega) (show cntT t - 1 < cnt t.1 t.2.1 t.2.2 by unfold cntT; omega)
section
variable (q : Bool) (c : Option Nat) (l : List TriP) (b : Bool) (ca : Option Nat) (a : List Int) (x low high : Int)
theorem l_SafeNest6 (hl : l.length ≤ 3) (hal : a.length = l.length) (hz : ∀ t ∈ l, t.2.2 ≠ 0) (hn : ∀ t ∈ l, nearT t) (ha : allN a) : ∀ (r : List TriP) (p : List Int) (i : Nat) (u v : Int), l.drop i = r → a.drop i = p →
    -1000000 - 1000000000000 * (i : Int) ≤ u → u ≤ 1000000 + 1000000000000 * (i : Int) → -1000000 - 1000000000000 * (i : Int) ≤ v → v ≤ 1000000 + 1000000000000 * (i : Int) →
    lp E0 pr0 24 6 ⟨[(1, SL b ca a.length (ints a)), (3, I low), (4, I high), (13, I u), (14, I v), (32, TrsT q c l), (33, I l.length), (34, I i)], [], 0⟩ =
      if noneT r = true then some (.ret, ⟨[(10, B true), (11, I 0)], [], 0⟩) else some (.exit 0, ⟨[(3, I low), (4, I high), (13, I (u + leastN r p)), (14, I (v + greatN r p))], [], 0⟩) := by
  intro r
  induction r with
  | nil =>
    intro p i u v h1 h2 b1 b2 b3 b4
    have h5 := drop_nil h1
    have h6 : ¬ (i : Int) < l.length := by omega
    rw [lp_eq lp24_6]
    simp (config := { maxSteps := 1000000 }) (disch := omega) only [push_cast, ↓reduceIte, Nat.reduceEqDiff, Nat.reduceAdd, Nat.reduceLT, Nat.reduceLeDiff, Nat.reduceBEq, Nat.reduceMul, Nat.reduceSub, Int.reduceToNat, Int.reduceEq, Int.reduceLT, Int.reduceLE, Int.reduceNeg, Int.reduceAdd, Int.reduceSub, Int.reduceMul, Try.f24, kr24, kp24_6, ow24_6, ty3, ty4, ty25, ty26, ty41, ty45, tb4, h6, leastN, greatN, Int.add_zero]
    simp [noneT]
  | cons t r ih =>
    intro p i u v h1 h2 b1 b2 b3 b4
    obtain ⟨g1, g2, g3⟩ := drop_cons h1
    obtain ⟨y, p, rfl⟩ : ∃ s q', p = s :: q' := by
      cases p with
      | nil => have := drop_nil h2; omega
      | cons s q => exact ⟨s, q, rfl⟩
    obtain ⟨g4, g5, g6⟩ := drop_cons h2
    have g8 : (i : Int) < l.length := by omega
    have g9 : (i : Int) < a.length := by omega
    have h0 := hz t (List.mem_of_getElem? g2)
    have hx := hn t (List.mem_of_getElem? g2)
    have hy := ha y (List.mem_of_getElem? g5)
    have ht := c_turns t.1 t.2.1 t.2.2
    rw [if_pos (okT_near h0 hx.1 hx.2.1 hx.2.2)] at ht
    change CALL _ _ = some (I (cntT t), []) at ht
    have eN : noneT (t :: r) = (decide (cntT t = 0) || noneT r) := by unfold noneT; rw [List.any_cons]
    obtain ⟨c0, c1⟩ := cntT_bd h0 hx
    rw [eN]
    rw [lp_eq lp24_6]
    by_cases hc : cntT t = 0
    · simp (config := { maxSteps := 1000000 }) (disch := omega) only [push_cast, ↓reduceIte, Nat.reduceEqDiff, Nat.reduceAdd, Nat.reduceLT, Nat.reduceLeDiff, Nat.reduceBEq, Nat.reduceMul, Nat.reduceSub, Int.reduceToNat, Int.reduceEq, Int.reduceLT, Int.reduceLE, Int.reduceNeg, Int.reduceAdd, Int.reduceSub, Int.reduceMul, Try.f24, kr24, kp24_6, ow24_6, ty3, ty4, ty25, ty26, ty41, ty45, tb4, g1, g4, g8, g9, tr0 g2, tr1 g2, tr2 g2, getD_of g5, ht, hc]
    · have he := endT_near h0 hx hc
      have m1 := mulN hy hx.1
      have m2 := mulN hy he
      have hxx := hx
      obtain ⟨x1, x2, x3⟩ := hxx
      have e1 : mn (y * t.1) (y * endT t) ≤ 1000000000000 ∧ -1000000000000 ≤ mn (y * t.1) (y * endT t) := by unfold mn; split <;> omega
      have e2 : mx (y * t.1) (y * endT t) ≤ 1000000000000 ∧ -1000000000000 ≤ mx (y * t.1) (y * endT t) := by unfold mx; split <;> omega
      have ih' := ih p (i + 1) (u + mn (y * t.1) (y * endT t)) (v + mx (y * t.1) (y * endT t)) g3 g6 (by omega) (by omega) (by omega) (by omega)
      have f1 : u + mn (y * t.1) (y * endT t) + leastN r p = u + leastN (t :: r) (y :: p) := by rw [leastN, Int.add_assoc]
      have f2 : v + mx (y * t.1) (y * endT t) + greatN r p = v + greatN (t :: r) (y :: p) := by rw [greatN, Int.add_assoc]
      rw [f1, f2] at ih'
      simp only [cast1, List.length_append, List.length_cons, List.length_nil, Nat.zero_add, Nat.add_zero, Int.natCast_zero, Int.natCast_add, Int.zero_add, ints_1, ints_0, ] at ih'
      unfold near at he x1 x3
      unfold endT at he m2 ih' e1 e2
      rw [decide_eq_false hc, Bool.false_or]
      simp (config := { maxSteps := 1000000 }) (disch := omega) only [push_cast, ↓reduceIte, Nat.reduceEqDiff, Nat.reduceAdd, Nat.reduceLT, Nat.reduceLeDiff, Nat.reduceBEq, Nat.reduceMul, Nat.reduceSub, Int.reduceToNat, Int.reduceEq, Int.reduceLT, Int.reduceLE, Int.reduceNeg, Int.reduceAdd, Int.reduceSub, Int.reduceMul, Try.f24, kr24, kp24_6, ow24_6, ty3, ty4, ty25, ty26, ty41, ty45, tb4, g1, g4, g8, g9, tr0 g2, tr1 g2, tr2 g2, getD_of g5, ht, hc, ih']
def safeN (l : List TriP) (a : List Int) (x low high : Int) : Bool := noneT l || (decide (low ≤ x + leastN l a) && decide (x + greatN l a ≤ high))
theorem leastN_bd : ∀ (r : List TriP) (p : List Int), (∀ t ∈ r, t.2.2 ≠ 0) → (∀ t ∈ r, nearT t) → allN p → noneT r = false →
    -(1000000000000 * (r.length : Int)) ≤ leastN r p ∧ leastN r p ≤ 1000000000000 * (r.length : Int) ∧ -(1000000000000 * (r.length : Int)) ≤ greatN r p ∧ greatN r p ≤ 1000000000000 * (r.length : Int)
  | [], p, _, _, _, _ => by simp [leastN, greatN]
  | t :: r, [], _, _, _, _ => by simp only [leastN, greatN, List.length_cons]; omega
  | t :: r, y :: p, hz, hn, ha, hno => by
    unfold noneT at hno
    rw [List.any_cons, Bool.or_eq_false_iff] at hno
    have hc := of_decide_eq_false hno.1
    have ih := leastN_bd r p (fun u hu => hz u (by simp [hu])) (fun u hu => hn u (by simp [hu])) (fun u hu => ha u (by simp [hu])) hno.2
    have hx := hn t (by simp)
    have m1 := mulN (ha y (by simp)) hx.1
    have m2 := mulN (ha y (by simp)) (endT_near (hz t (by simp)) hx hc)
    have e1 : mn (y * t.1) (y * endT t) ≤ 1000000000000 ∧ -1000000000000 ≤ mn (y * t.1) (y * endT t) := by unfold mn; split <;> omega
    have e2 : mx (y * t.1) (y * endT t) ≤ 1000000000000 ∧ -1000000000000 ≤ mx (y * t.1) (y * endT t) := by unfold mx; split <;> omega
    simp only [leastN, greatN, List.length_cons]
    have : ((r.length + 1 : Nat) : Int) = (r.length : Int) + 1 := rfl
    omega
theorem c_SafeNest (hl : (l.length : Int) ≤ 9223372036854775806) (hal : (a.length : Int) ≤ 9223372036854775806) : CALL 24 [TrsT q c l, SL b ca a.length (ints a), I x, I low, I high] = some (.tup [B (decide (nestE l a x low high = 0) && safeN l a x low high), I (nestE l a x low high)], []) := by
  have hN := fun cr => c_nest q c l b ca a x low high false cr hl hal
  refine lim_run (fn := Try.f24) fn24 rfl body24 (Nat.le_of_ble_eq_true rfl) ok24 ?_
  by_cases he : nestE l a x low high = 0
  · obtain ⟨k1, k2, k3, k4⟩ := nestE_ok he
    have hx := k2.2.2.2.1 x (by simp)
    unfold near at hx
    rw [he] at hN
    have hl6 := l_SafeNest6 q c l b ca a low high k2.2.1 k2.2.2.1 k1 k3 k2.2.2.2.2 l a 0 x x rfl rfl (by omega) (by omega) (by omega) (by omega)
    simp only [cast1, List.length_append, List.length_cons, List.length_nil, Nat.zero_add, Nat.add_zero, Int.natCast_zero, Int.natCast_add, Int.zero_add, ints_1, ints_0, ] at hl6
    unfold safeN
    cases hno : noneT l with
    | true =>
      rw [hno, if_pos rfl] at hl6
      simp (config := { maxSteps := 1000000 }) (disch := omega) only [push_cast, ↓reduceIte, Nat.reduceEqDiff, Nat.reduceAdd, Nat.reduceLT, Nat.reduceLeDiff, Nat.reduceBEq, Nat.reduceMul, Nat.reduceSub, Int.reduceToNat, Int.reduceEq, Int.reduceLT, Int.reduceLE, Int.reduceNeg, Int.reduceAdd, Int.reduceSub, Int.reduceMul, Try.f24, kr24, kp24_6, ow24_6, ty3, ty4, ty25, ty26, ty41, ty45, tb4, hN, he, hl6]
    | false =>
      rw [hno] at hl6
      simp only [Bool.false_eq_true, if_false] at hl6
      by_cases c1 : low ≤ x + leastN l a
      · simp (config := { maxSteps := 1000000 }) (disch := omega) only [push_cast, ↓reduceIte, Nat.reduceEqDiff, Nat.reduceAdd, Nat.reduceLT, Nat.reduceLeDiff, Nat.reduceBEq, Nat.reduceMul, Nat.reduceSub, Int.reduceToNat, Int.reduceEq, Int.reduceLT, Int.reduceLE, Int.reduceNeg, Int.reduceAdd, Int.reduceSub, Int.reduceMul, Try.f24, kr24, kp24_6, ow24_6, ty3, ty4, ty25, ty26, ty41, ty45, tb4, hN, he, hl6, c1]
      · simp (config := { maxSteps := 1000000 }) (disch := omega) only [push_cast, ↓reduceIte, Nat.reduceEqDiff, Nat.reduceAdd, Nat.reduceLT, Nat.reduceLeDiff, Nat.reduceBEq, Nat.reduceMul, Nat.reduceSub, Int.reduceToNat, Int.reduceEq, Int.reduceLT, Int.reduceLE, Int.reduceNeg, Int.reduceAdd, Int.reduceSub, Int.reduceMul, Try.f24, kr24, kp24_6, ow24_6, ty3, ty4, ty25, ty26, ty41, ty45, tb4, hN, he, hl6, c1]
  · simp (config := { maxSteps := 1000000 }) (disch := omega) only [push_cast, ↓reduceIte, Nat.reduceEqDiff, Nat.reduceAdd, Nat.reduceLT, Nat.reduceLeDiff, Nat.reduceBEq, Nat.reduceMul, Nat.reduceSub, Int.reduceToNat, Int.reduceEq, Int.reduceLT, Int.reduceLE, Int.reduceNeg, Int.reduceAdd, Int.reduceSub, Int.reduceMul, Try.f24, kr24, kp24_6, ow24_6, ty3, ty4, ty25, ty26, ty41, ty45, tb4, hN, he]
end
end Go.Proofs.Ytopnopepcpepbaa.Tev
