/- guard.FirstNest: the turns of a nest. -/
import Derived.Test.YtopnopepcpepbaaC22i
namespace Go.Proofs.Ytopnopepcpepbaa.Tev
open Go Go.RowKit Go.Proofs Go.Proofs.Ytopnopepcpepbaa.Q
set_option linter.unusedSectionVars false
set_option maxRecDepth 100000
set_option maxHeartbeats 0
set_option linter.unusedSimpArgs false
set_option linter.unusedVariables false
theorem make_ints (S : St) (n : Nat) (h : n ≤ 4000) : makeSliceT Try.prog S 41 (I n) (I n) = some (.sl S.n 0 n 1 (some n), [.arr (ints (List.replicate n 0)) S.n 1]) := by
  have e1 : elemOf Try.prog 41 = some 3 := by kernel_rfl
  have e2 : szOf Try.prog 3 = some 1 := by kernel_rfl
  have e4 : zeroOf Try.prog 3 = some [I 0] := by kernel_rfl
  have e5 : bytesOf Try.prog 3 = some 8 := by kernel_rfl
  unfold makeSliceT
  rw [e1, Option.bind_some, e2, Option.bind_some, e5, Option.bind_some, e4, Option.bind_some]
  show (if (0 : Int) ≤ n ∧ (n : Int) = n ∧ (n : Int) ≤ 140737488355328 ∧ (n : Int) * 8 ≤ 140737488355328 ∧ 1 = 1 then _ else _) = _
  rw [if_pos ⟨by omega, rfl, by omega, by omega, rfl⟩]
  simp [ints]
def sumV (l : List TriP) (a : List Int) (x : Int) (i : Nat) : Int := x + sumN a (varsN l i).1
def findBad (l : List TriP) (a : List Int) (x low high : Int) : Nat → Nat → Option Nat
  | 0, _ => none
  | d + 1, i => if sumV l a x i < low ∨ high < sumV l a x i then some i else findBad l a x low high d (i + 1)
section
variable (q : Bool) (c : Option Nat) (l : List TriP) (b : Bool) (ca : Option Nat) (a : List Int) (x low high : Int)
theorem l_FirstNest11 (hx : near x) (hl : l.length ≤ 3) (hal : a.length = l.length) (hz : ∀ t ∈ l, t.2.2 ≠ 0) (hn : ∀ t ∈ l, nearT t) (ha : allN a) (hno : ∀ t ∈ l, ¬ cntT t = 0) (N : Nat) (hN : N ≤ 2000) : ∀ (d i : Nat), i + d = N →
    lp E0 pr0 23 11 ⟨[(0, TrsT q c l), (1, SL b ca a.length (ints a)), (2, I x), (3, I low), (4, I high), (43, I N), (44, I i)], [], 0⟩ =
      match findBad l a x low high d i with
      | some j => some (.ret, ⟨[(10, .sl 0 0 l.length 1 (some l.length)), (11, I 0)], [(0, .arr (ints (varsN l j).1) 0 1)], 1⟩)
      | none => some (.exit 2, ⟨[], [], 0⟩) := by
  intro d
  induction d with
  | zero =>
    intro i hi
    have h6 : ¬ (i : Int) < N := by omega
    rw [lp_eq lp23_11]
    simp (config := { maxSteps := 1000000 }) (disch := omega) only [push_cast, ↓reduceIte, Nat.reduceEqDiff, Nat.reduceAdd, Nat.reduceLT, Nat.reduceLeDiff, Nat.reduceBEq, Nat.reduceMul, Nat.reduceSub, Int.reduceToNat, Int.reduceEq, Int.reduceLT, Int.reduceLE, Int.reduceNeg, Int.reduceAdd, Int.reduceSub, Int.reduceMul, Try.f23, kr23, kp23_16, kp23_11, kp23_6, ow23_16, ow23_11, ow23_6, ty3, ty25, ty26, ty41, ty45, h6, findBad]
  | succ d ih =>
    intro i hi
    have h6 : (i : Int) < N := by omega
    have ih' := ih (i + 1) (by omega)
    unfold near at hx
    have hin := fun cp => l_FirstNest16 q c l b ca a x low high hl hal hz hn ha hno N i i cp (by omega) (by omega) l.length (Nat.le_refl _) (by rw [List.drop_length, ← hal, List.drop_length]; simp only [varsN, sumN]; omega) (by rw [List.drop_length, ← hal, List.drop_length]; simp only [varsN, sumN]; omega)
    rw [List.drop_length] at hin
    have hd : a.drop l.length = [] := by rw [← hal, List.drop_length]
    rw [hd] at hin
    simp only [varsN, sumN, Int.add_zero, List.append_nil] at hin
    simp only [cast1, List.length_append, List.length_cons, List.length_nil, Nat.zero_add, Nat.add_zero, Int.natCast_zero, Int.natCast_add, Int.zero_add, ints_1, ints_0, ] at ih'
    have hmk := fun S => make_ints S l.length (by omega)
    unfold findBad sumV
    rw [lp_eq lp23_11]
    by_cases h1 : x + sumN a (varsN l i).1 < low
    · simp (config := { maxSteps := 1000000 }) (disch := omega) only [push_cast, ↓reduceIte, Nat.reduceEqDiff, Nat.reduceAdd, Nat.reduceLT, Nat.reduceLeDiff, Nat.reduceBEq, Nat.reduceMul, Nat.reduceSub, Int.reduceToNat, Int.reduceEq, Int.reduceLT, Int.reduceLE, Int.reduceNeg, Int.reduceAdd, Int.reduceSub, Int.reduceMul, Try.f23, kr23, kp23_16, kp23_11, kp23_6, ow23_16, ow23_11, ow23_6, ty3, ty25, ty26, ty41, ty45, h6, hmk, hin, h1, true_or]
    · by_cases h2 : high < x + sumN a (varsN l i).1
      · simp (config := { maxSteps := 1000000 }) (disch := omega) only [push_cast, ↓reduceIte, Nat.reduceEqDiff, Nat.reduceAdd, Nat.reduceLT, Nat.reduceLeDiff, Nat.reduceBEq, Nat.reduceMul, Nat.reduceSub, Int.reduceToNat, Int.reduceEq, Int.reduceLT, Int.reduceLE, Int.reduceNeg, Int.reduceAdd, Int.reduceSub, Int.reduceMul, Try.f23, kr23, kp23_16, kp23_11, kp23_6, ow23_16, ow23_11, ow23_6, ty3, ty25, ty26, ty41, ty45, h6, hmk, hin, h1, h2, or_true, false_or]
      · simp (config := { maxSteps := 1000000 }) (disch := omega) only [push_cast, ↓reduceIte, Nat.reduceEqDiff, Nat.reduceAdd, Nat.reduceLT, Nat.reduceLeDiff, Nat.reduceBEq, Nat.reduceMul, Nat.reduceSub, Int.reduceToNat, Int.reduceEq, Int.reduceLT, Int.reduceLE, Int.reduceNeg, Int.reduceAdd, Int.reduceSub, Int.reduceMul, Try.f23, kr23, kp23_16, kp23_11, kp23_6, ow23_16, ow23_11, ow23_6, ty3, ty25, ty26, ty41, ty45, h6, hmk, hin, h1, h2, or_self, ih']
def firstR (l : List TriP) (a : List Int) (x low high : Int) : List Int :=
  if nestE l a x low high = 0 then (match findBad l a x low high (prodT l).toNat 0 with | some j => (varsN l j).1 | none => []) else []
theorem c_FirstNest (hl : (l.length : Int) ≤ 9223372036854775806) (hal : (a.length : Int) ≤ 9223372036854775806) : CALL 23 [TrsT q c l, SL b ca a.length (ints a), I x, I low, I high] = some (.tup [.sl 0 0 (firstR l a x low high).length 1 none, I (nestE l a x low high)], [ints (firstR l a x low high)]) := by
  have hN := fun cr => c_nest q c l b ca a x low high false cr hl hal
  unfold firstR
  refine lim_run (fn := Try.f23) fn23 rfl body23 (Nat.le_of_ble_eq_true rfl) ok23 ?_
  by_cases he : nestE l a x low high = 0
  · obtain ⟨k1, k2, k3, k4⟩ := nestE_ok he
    rw [he] at hN
    have hl6 := l_FirstNest6 q c l b ca a x low high k2.2.1 k1 k3 l 0 1 rfl (by omega) (by simp [P3])
    simp only [Int.one_mul, Int.natCast_zero] at hl6
    rw [if_pos he]
    cases hno : noneT l with
    | true =>
      rw [prod_none hno] at hl6 ⊢
      simp (config := { maxSteps := 1000000 }) (disch := omega) only [push_cast, ↓reduceIte, Nat.reduceEqDiff, Nat.reduceAdd, Nat.reduceLT, Nat.reduceLeDiff, Nat.reduceBEq, Nat.reduceMul, Nat.reduceSub, Int.reduceToNat, Int.reduceEq, Int.reduceLT, Int.reduceLE, Int.reduceNeg, Int.reduceAdd, Int.reduceSub, Int.reduceMul, Try.f23, kr23, kp23_16, kp23_11, kp23_6, ow23_16, ow23_11, ow23_6, ty3, ty25, ty26, ty41, ty45, hN, he, hl6, findBad, fun S0 => lp_eq (S0 := S0) (pr := pr0) lp23_11]
    | false =>
      have hp := prodT_pos hno
      obtain ⟨N, hN2⟩ : ∃ N : Nat, prodT l = N := ⟨(prodT l).toNat, by omega⟩
      have hno' : ∀ t ∈ l, ¬ cntT t = 0 := fun t ht hc => by
        have : noneT l = true := List.any_eq_true.2 ⟨t, ht, decide_eq_true hc⟩
        rw [hno] at this; simp at this
      have h11 := l_FirstNest11 q c l b ca a x low high (k2.2.2.2.1 x (by simp)) k2.2.1 k2.2.2.1 k1 k3 k2.2.2.2.2 hno' N (by omega) N 0 (by omega)
      rw [hN2] at hl6 ⊢
      rw [Int.toNat_natCast]
      simp only [Int.natCast_zero] at h11
      cases hf : findBad l a x low high N 0 with
      | none =>
        rw [hf] at h11
        simp only at h11
        simp (config := { maxSteps := 1000000 }) (disch := omega) only [push_cast, ↓reduceIte, Nat.reduceEqDiff, Nat.reduceAdd, Nat.reduceLT, Nat.reduceLeDiff, Nat.reduceBEq, Nat.reduceMul, Nat.reduceSub, Int.reduceToNat, Int.reduceEq, Int.reduceLT, Int.reduceLE, Int.reduceNeg, Int.reduceAdd, Int.reduceSub, Int.reduceMul, Try.f23, kr23, kp23_16, kp23_11, kp23_6, ow23_16, ow23_11, ow23_6, ty3, ty25, ty26, ty41, ty45, hN, he, hl6, h11]
      | some j =>
        rw [hf] at h11
        simp only at h11
        have hv := varsN_len l j
        have rw' : rowAt (ints (varsN l j).1) 0 l.length = ints (varsN l j).1 := rowAt_all _ _ (by rw [ints_len, hv])
        simp (config := { maxSteps := 1000000 }) (disch := omega) only [push_cast, ↓reduceIte, Nat.reduceEqDiff, Nat.reduceAdd, Nat.reduceLT, Nat.reduceLeDiff, Nat.reduceBEq, Nat.reduceMul, Nat.reduceSub, Int.reduceToNat, Int.reduceEq, Int.reduceLT, Int.reduceLE, Int.reduceNeg, Int.reduceAdd, Int.reduceSub, Int.reduceMul, Try.f23, kr23, kp23_16, kp23_11, kp23_6, ow23_16, ow23_11, ow23_6, ty3, ty25, ty26, ty41, ty45, hN, he, hl6, h11, hv, rw']
  · simp (config := { maxSteps := 1000000 }) (disch := omega) only [push_cast, ↓reduceIte, Nat.reduceEqDiff, Nat.reduceAdd, Nat.reduceLT, Nat.reduceLeDiff, Nat.reduceBEq, Nat.reduceMul, Nat.reduceSub, Int.reduceToNat, Int.reduceEq, Int.reduceLT, Int.reduceLE, Int.reduceNeg, Int.reduceAdd, Int.reduceSub, Int.reduceMul, Try.f23, kr23, kp23_16, kp23_11, kp23_6, ow23_16, ow23_11, ow23_6, ty3, ty25, ty26, ty41, ty45, hN, he]
end
end Go.Proofs.Ytopnopepcpepbaa.Tev
