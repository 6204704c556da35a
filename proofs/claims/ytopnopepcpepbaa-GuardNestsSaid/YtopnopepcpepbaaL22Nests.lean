/- The law GuardNests: what it returns for any input. -/
import Derived.Test.YtopnopepcpepbaaC22m
import Derived.Test.YtopnopepcpepbaaC22w
namespace Go.Proofs.Ytopnopepcpepbaa.Tev
open Go Go.RowKit Go.Proofs Go.Proofs.Ytopnopepcpepbaa.Q
set_option linter.unusedSectionVars false
set_option maxRecDepth 100000
set_option maxHeartbeats 0
set_option linter.unusedSimpArgs false
set_option linter.unusedVariables false
theorem varsN_near : ∀ (r : List TriP) (n : Int), 0 ≤ n → (∀ t ∈ r, t.2.2 ≠ 0) → (∀ t ∈ r, nearT t) → noneT r = false → allN (varsN r n).1
  | [], n, _, _, _, _ => fun x hx => by simp [varsN] at hx
  | t :: r, n, h0, hz, hn, hno => by
    obtain ⟨hc, hr⟩ := noneT_cons hno
    have ih := varsN_near r n h0 (fun u hu => hz u (by simp [hu])) (fun u hu => hn u (by simp [hu])) hr
    have hb := varsN_bd r n h0
    have hx := hn t (by simp)
    have r0 : 0 ≤ Int.tmod (varsN r n).2 (cntT t) := Int.tmod_nonneg _ hb.1
    have r1 : Int.tmod (varsN r n).2 (cntT t) < cntT t := Int.tmod_lt_of_pos _ (by omega)
    have hv := near_turn (hz t (by simp)) hx.1 hx.2.1 r0 (show Int.tmod (varsN r n).2 (cntT t) < cnt t.1 t.2.1 t.2.2 from r1)
    intro y hy
    have hy : y ∈ (t.1 + Int.tmod (varsN r n).2 (cntT t) * t.2.2) :: (varsN r n).1 := hy
    rcases List.mem_cons.1 hy with rfl | hy
    · exact hv
    · exact ih y hy
theorem firstR_near {l : List TriP} {a : List Int} {x low high : Int} : allN (firstR l a x low high) := by
  unfold firstR
  split
  · rename_i he
    obtain ⟨k1, k2, k3, k4⟩ := nestE_ok he
    cases hf : findBad l a x low high (prodT l).toNat 0 with
    | none => exact fun y hy => by simp at hy
    | some j =>
      cases hno : noneT l with
      | true => rw [prod_none hno] at hf; simp [findBad] at hf
      | false => exact varsN_near l j (by omega) k1 k3 hno
  · exact fun y hy => by simp at hy
section
variable (q : Bool) (c : Option Nat) (l : List TriP) (b : Bool) (ca : Option Nat) (a : List Int) (A x low high : Int)
theorem l_GuardNests11 (F : List Int) (hF : F.length ≤ 3) (hFa : F.length ≤ a.length) (hFn : allN F) (ha : allN a) : ∀ (r p : List Int) (i : Nat) (v : Int), F.drop i = r → a.drop i = p → -1000000 - 1000000000000 * (i : Int) ≤ v → v ≤ 1000000 + 1000000000000 * (i : Int) →
    lp E0 pr0 8 11 ⟨[(2, .pt 0 0), (3, .pt 1 0), (9, .sl 2 0 F.length 1 none), (11, .sl 3 0 F.length 1 none), (13, I v), (14, I i)],
        [(0, .box [TrsT q c l, SL b ca a.length (ints a)]), (1, .box [I A, I x, I low, I high]), (2, .arr (ints F) 2 1), (3, .arr (ints F) 3 1)], 4⟩ =
      some (.exit 0, ⟨[(3, .pt 0 0), (9, .sl 1 0 F.length 1 none), (13, I (v + sumN p r))], [(0, .box [I A, I x, I low, I high]), (1, .arr (ints F) 1 1)], 2⟩) := by
  intro r
  induction r with
  | nil =>
    intro p i v h1 h2 b1 b2
    have h5 := drop_nil h1
    have h6 : ¬ (i : Int) < F.length := by omega
    have e : sumN p [] = 0 := by cases p <;> rfl
    rw [e, Int.add_zero]
    rw [lp_eq lp8_11]
    simp (config := { maxSteps := 1000000 }) (disch := omega) only [push_cast, ↓reduceIte, Nat.reduceEqDiff, Nat.reduceAdd, Nat.reduceLT, Nat.reduceLeDiff, Nat.reduceBEq, Nat.reduceMul, Nat.reduceSub, Int.reduceToNat, Int.reduceEq, Int.reduceLT, Int.reduceLE, Int.reduceNeg, Int.reduceAdd, Int.reduceSub, Int.reduceMul, Try.f8, kr8, kp8_11, ow8_11, ty3, ty4, ty23, ty25, ty41, ty45, ty47, tb4, h6]
  | cons z r ih =>
    intro p i v h1 h2 b1 b2
    obtain ⟨g1, g2, g3⟩ := drop_cons h1
    obtain ⟨y, p, rfl⟩ : ∃ s q', p = s :: q' := by
      cases p with
      | nil => have := drop_nil h2; omega
      | cons s q => exact ⟨s, q, rfl⟩
    obtain ⟨g4, g5, g6⟩ := drop_cons h2
    have g8 : (i : Int) < F.length := by omega
    have g9 : (i : Int) < a.length := by omega
    have hz := hFn z (List.mem_of_getElem? g2)
    have hy := ha y (List.mem_of_getElem? g5)
    have m := mulN hy hz
    have ih' := ih p (i + 1) (v + y * z) g3 g6 (by omega) (by omega)
    rw [show v + y * z + sumN p r = v + sumN (y :: p) (z :: r) by simp only [sumN]; omega] at ih'
    simp only [cast1, List.length_append, List.length_cons, List.length_nil, Nat.zero_add, Nat.add_zero, Int.natCast_zero, Int.natCast_add, Int.zero_add, ints_1, ints_0, ] at ih'
    rw [lp_eq lp8_11]
    simp (config := { maxSteps := 1000000 }) (disch := omega) only [push_cast, ↓reduceIte, Nat.reduceEqDiff, Nat.reduceAdd, Nat.reduceLT, Nat.reduceLeDiff, Nat.reduceBEq, Nat.reduceMul, Nat.reduceSub, Int.reduceToNat, Int.reduceEq, Int.reduceLT, Int.reduceLE, Int.reduceNeg, Int.reduceAdd, Int.reduceSub, Int.reduceMul, Try.f8, kr8, kp8_11, ow8_11, ty3, ty4, ty23, ty25, ty41, ty45, ty47, tb4, g1, g4, g8, g9, getD_of g2, getD_of g5, ih']
theorem l_GuardNests11n (v : Int) :
    lp E0 pr0 8 11 ⟨[(2, .pt 0 0), (3, .pt 1 0), (9, .sl 2 0 0 1 none), (11, .sl 3 0 0 1 none), (13, I v), (14, I 0)],
        [(0, .box [TrsT q c l, SL b ca a.length (ints a)]), (1, .box [I A, I x, I low, I high]), (2, .arr [] 2 1), (3, .arr [] 3 1)], 4⟩ =
      some (.exit 0, ⟨[(3, .pt 0 0), (9, .sl 1 0 0 1 none), (13, I v)], [(0, .box [I A, I x, I low, I high]), (1, .arr [] 1 1)], 2⟩) := by
  rw [lp_eq lp8_11]
  simp (config := { maxSteps := 1000000 }) (disch := omega) only [push_cast, ↓reduceIte, Nat.reduceEqDiff, Nat.reduceAdd, Nat.reduceLT, Nat.reduceLeDiff, Nat.reduceBEq, Nat.reduceMul, Nat.reduceSub, Int.reduceToNat, Int.reduceEq, Int.reduceLT, Int.reduceLE, Int.reduceNeg, Int.reduceAdd, Int.reduceSub, Int.reduceMul, Try.f8, kr8, kp8_11, ow8_11, ty3, ty4, ty23, ty25, ty41, ty45, ty47, tb4, Int.lt_irrefl]
theorem GuardNests_true' (hl : (l.length : Int) ≤ 9223372036854775806) (hal : (a.length : Int) ≤ 9223372036854775806) :
    CALL 8 [.agg [TrsT q c l, SL b ca a.length (ints a)], .agg [I A, I x, I low, I high]] = some (B true, []) := by
  refine lim_run (fn := Try.f8) fn8 rfl body8 (Nat.le_of_ble_eq_true rfl) ok8 ?_
  by_cases c1 : 10 < (l.length : Int)
  · simp (config := { maxSteps := 1000000 }) (disch := omega) only [push_cast, ↓reduceIte, Nat.reduceEqDiff, Nat.reduceAdd, Nat.reduceLT, Nat.reduceLeDiff, Nat.reduceBEq, Nat.reduceMul, Nat.reduceSub, Int.reduceToNat, Int.reduceEq, Int.reduceLT, Int.reduceLE, Int.reduceNeg, Int.reduceAdd, Int.reduceSub, Int.reduceMul, Try.f8, kr8, kp8_11, ow8_11, ty3, ty4, ty23, ty25, ty41, ty45, ty47, tb4, c1, c_Awake22]
  · by_cases c2 : 10 < (a.length : Int)
    · simp (config := { maxSteps := 1000000 }) (disch := omega) only [push_cast, ↓reduceIte, Nat.reduceEqDiff, Nat.reduceAdd, Nat.reduceLT, Nat.reduceLeDiff, Nat.reduceBEq, Nat.reduceMul, Nat.reduceSub, Int.reduceToNat, Int.reduceEq, Int.reduceLT, Int.reduceLE, Int.reduceNeg, Int.reduceAdd, Int.reduceSub, Int.reduceMul, Try.f8, kr8, kp8_11, ow8_11, ty3, ty4, ty23, ty25, ty41, ty45, ty47, tb4, c1, c2, c_Awake22]
    · have s1 := c_SafeNest q c l b ca a x low high hl hal
      have s2 := r_SafeNest q c l b ca a low high x hl hal
      have f1 := c_FirstNest q c l b ca a x low high hl hal
      have f2 := r_FirstNest q c l b ca a low high x hl hal
      by_cases he : nestE l a x low high = 0
      · obtain ⟨k1, k2, k3, k4⟩ := nestE_ok he
        have hx := k2.2.2.2.1 x (by simp)
        unfold near at hx
        have hb := firstR_bad (l := l) (a := a) (x := x) (low := low) (high := high)
        have hFl : (firstR l a x low high).length ≤ l.length := by rcases hb with h | h <;> omega
        have h11 := l_GuardNests11 q c l b ca a A x low high (firstR l a x low high) (by omega) (by omega) firstR_near k2.2.2.2.2 (firstR l a x low high) a 0 x rfl rfl (by omega) (by omega)
        rw [he, decide_eq_true rfl, Bool.true_and, safe_iff he] at s1
        rw [he, decide_eq_true rfl, Bool.true_and] at s2
        rw [he] at f1 f2
        generalize firstR l a x low high = F at *
        simp only [Int.natCast_zero] at h11
        have r1 : rowAt (ints F) 0 F.length = ints F := rowAt_all _ _ (by rw [ints_len])
        by_cases h0 : F.length = 0
        · have e0 : F = [] := List.length_eq_zero_iff.1 h0
          subst e0
          simp only [List.length_nil, decide_true, ints_0] at s1 s2 f1 f2
          have h11 := l_GuardNests11n q c l b ca a A x low high x
          simp (config := { maxSteps := 1000000 }) (disch := omega) only [push_cast, ↓reduceIte, Nat.reduceEqDiff, Nat.reduceAdd, Nat.reduceLT, Nat.reduceLeDiff, Nat.reduceBEq, Nat.reduceMul, Nat.reduceSub, Int.reduceToNat, Int.reduceEq, Int.reduceLT, Int.reduceLE, Int.reduceNeg, Int.reduceAdd, Int.reduceSub, Int.reduceMul, Try.f8, kr8, kp8_11, ow8_11, ty3, ty4, ty23, ty25, ty41, ty45, ty47, tb4, c1, c2, s1, s2, f1, f2, h11, c_Awake22]
        · have h1 : ¬ (F.length : Int) = 0 := by omega
          rw [decide_eq_false h0] at s1 s2
          rcases hb with hb | ⟨hb, hbad⟩
          · exact absurd hb h0
          · by_cases hlow : x + sumN a F < low
            · simp (config := { maxSteps := 1000000 }) (disch := omega) only [push_cast, ↓reduceIte, Nat.reduceEqDiff, Nat.reduceAdd, Nat.reduceLT, Nat.reduceLeDiff, Nat.reduceBEq, Nat.reduceMul, Nat.reduceSub, Int.reduceToNat, Int.reduceEq, Int.reduceLT, Int.reduceLE, Int.reduceNeg, Int.reduceAdd, Int.reduceSub, Int.reduceMul, Try.f8, kr8, kp8_11, ow8_11, ty3, ty4, ty23, ty25, ty41, ty45, ty47, tb4, c1, c2, s1, s2, f1, f2, r1, h1, h11, hlow, c_Awake22]
            · have hhigh : high < x + sumN a F := by omega
              simp (config := { maxSteps := 1000000 }) (disch := omega) only [push_cast, ↓reduceIte, Nat.reduceEqDiff, Nat.reduceAdd, Nat.reduceLT, Nat.reduceLeDiff, Nat.reduceBEq, Nat.reduceMul, Nat.reduceSub, Int.reduceToNat, Int.reduceEq, Int.reduceLT, Int.reduceLE, Int.reduceNeg, Int.reduceAdd, Int.reduceSub, Int.reduceMul, Try.f8, kr8, kp8_11, ow8_11, ty3, ty4, ty23, ty25, ty41, ty45, ty47, tb4, c1, c2, s1, s2, f1, f2, r1, h1, h11, hlow, hhigh, c_Awake22]
      · have e : firstR l a x low high = [] := by unfold firstR; rw [if_neg he]
        rw [decide_eq_false he, Bool.false_and] at s1 s2
        rw [e] at f1 f2
        simp only [List.length_nil] at f1 f2
        have h11 := l_GuardNests11n q c l b ca a A x low high x
        simp (config := { maxSteps := 1000000 }) (disch := omega) only [push_cast, ↓reduceIte, Nat.reduceEqDiff, Nat.reduceAdd, Nat.reduceLT, Nat.reduceLeDiff, Nat.reduceBEq, Nat.reduceMul, Nat.reduceSub, Int.reduceToNat, Int.reduceEq, Int.reduceLT, Int.reduceLE, Int.reduceNeg, Int.reduceAdd, Int.reduceSub, Int.reduceMul, Try.f8, kr8, kp8_11, ow8_11, ty3, ty4, ty23, ty25, ty41, ty45, ty47, tb4, c1, c2, s1, s2, f1, f2, he, c_Awake22, h11]
end
theorem GuardNests_true (x : List (Int × Int × Int) × List Int) (y : Int × Int × Int × Int) (hx : (x.1.length * 24 ≤ 140737488351232 ∧ ∀ t ∈ x.1, (-9223372036854775808 ≤ t.1 ∧ t.1 ≤ 9223372036854775807) ∧ (-9223372036854775808 ≤ t.2.1 ∧ t.2.1 ≤ 9223372036854775807) ∧ (-9223372036854775808 ≤ t.2.2 ∧ t.2.2 ≤ 9223372036854775807)) ∧ (x.2.length * 8 ≤ 140737488351232 ∧ ∀ n ∈ x.2, -9223372036854775808 ≤ n ∧ n ≤ 9223372036854775807))
    (hy : (-9223372036854775808 ≤ y.1 ∧ y.1 ≤ 9223372036854775807) ∧ (-9223372036854775808 ≤ y.2.1 ∧ y.2.1 ≤ 9223372036854775807) ∧ (-9223372036854775808 ≤ y.2.2.1 ∧ y.2.2.1 ≤ 9223372036854775807) ∧ (-9223372036854775808 ≤ y.2.2.2 ∧ y.2.2.2 ≤ 9223372036854775807)) :
    CALL 8 [.agg [.c (.s none x.1.length (x.1.flatMap triC)), .c (.s none x.2.length (ints x.2))], .agg [I y.1, I y.2.1, I y.2.2.1, I y.2.2.2]] = some (B true, []) :=
  GuardNests_true' true none x.1 true none x.2 y.1 y.2.1 y.2.2.1 y.2.2.2 (by have := hx.1.1; omega) (by have := hx.2.1; omega)
end Go.Proofs.Ytopnopepcpepbaa.Tev
