/- Contiguous, packed, valid, all; the document's. -/
import Derived.Test.YtochkebkfoophaaC24a
namespace Go.Proofs.Ytochkebkfoophaa.Tev
open Go Go.RowKit Go.Proofs Go.Proofs.Ytochkebkfoophaa.Q
set_option linter.unusedSectionVars false
set_option maxRecDepth 100000
set_option maxHeartbeats 0
set_option linter.unusedSimpArgs false
set_option linter.unusedVariables false
def cont : List Int → Bool
  | x :: y :: r => decide (y = x + 1) && cont (y :: r)
  | _ => true
def contQ (b : Int) (E S : List Int) : Bool := decide (okD b E S) && cont (placesQ b E S)
section
variable (base : Int) (b b1 b2 b5 : Bool) (c c1 c2 c5 : Option Nat) (m E S l : List Int)
theorem l_Cont5 (L : List Int) (hL : L.length ≤ 4000) (hb : ∀ x ∈ L, 0 ≤ x ∧ x ≤ 2147483648) : ∀ (r : List Int) (i : Nat) (x : Int), L.drop i = x :: r →
    lp E0 pr0 53 5 ⟨[(4, .sl 0 0 L.length 1 none), (6, I (i + 1))], [(0, .arr (ints L) 0 1)], 1⟩ =
      if cont (x :: r) = true then some (.exit 0, ⟨[], [], 0⟩) else some (.ret, ⟨[(2, B false), (3, I 0)], [], 0⟩) := by
  intro r
  induction r with
  | nil =>
    intro i x h1
    obtain ⟨g1, g2, g3⟩ := drop_cons h1
    have h5 := drop_nil g3
    have h6 : ¬ (i : Int) + 1 < L.length := by omega
    rw [lp_eq lp53_5]
    simp (config := { maxSteps := 1000000 }) (disch := omega) only [push_cast, ↓reduceIte, Nat.reduceEqDiff, Nat.reduceAdd, Nat.reduceLT, Nat.reduceLeDiff, Nat.reduceBEq, Nat.reduceMul, Nat.reduceSub, Int.reduceToNat, Int.reduceEq, Int.reduceLT, Int.reduceLE, Int.reduceNeg, Int.reduceAdd, Int.reduceSub, Int.reduceMul, Try.f53, kr53, kp53_5, ow53_5, ty3, ty4, ty22, ty27, ty34, tb4, h6, cont]
  | cons y r ih =>
    intro i x h1
    obtain ⟨g1, g2, g3⟩ := drop_cons h1
    obtain ⟨g4, g5, g6⟩ := drop_cons g3
    have g8 : (i : Int) + 1 < L.length := by omega
    have g7 : (i : Int) < L.length := by omega
    have e0 := hb x (List.mem_of_getElem? g2)
    have t1 : ((i : Int) + 1).toNat = i + 1 := rfl
    have t2 : (i : Int) + 1 - 1 = i := by omega
    have t3 : 0 ≤ (i : Int) + 1 := by omega
    have ih' := ih (i + 1) y g3
    simp only [cast1, List.length_append, List.length_cons, List.length_nil, Nat.zero_add, Nat.add_zero, Int.natCast_zero, Int.natCast_add, Int.zero_add, ints_1, ints_0, ] at ih'
    rw [lp_eq lp53_5]
    by_cases hx : y = x + 1
    · simp (config := { maxSteps := 1000000 }) (disch := omega) only [push_cast, ↓reduceIte, Nat.reduceEqDiff, Nat.reduceAdd, Nat.reduceLT, Nat.reduceLeDiff, Nat.reduceBEq, Nat.reduceMul, Nat.reduceSub, Int.reduceToNat, Int.reduceEq, Int.reduceLT, Int.reduceLE, Int.reduceNeg, Int.reduceAdd, Int.reduceSub, Int.reduceMul, Try.f53, kr53, kp53_5, ow53_5, ty3, ty4, ty22, ty27, ty34, tb4, g1, g4, g7, g8, t1, t2, t3, getD_of g2, getD_of g5, hx, ih', cont]
    · simp (config := { maxSteps := 1000000 }) (disch := omega) only [push_cast, ↓reduceIte, Nat.reduceEqDiff, Nat.reduceAdd, Nat.reduceLT, Nat.reduceLeDiff, Nat.reduceBEq, Nat.reduceMul, Nat.reduceSub, Int.reduceToNat, Int.reduceEq, Int.reduceLT, Int.reduceLE, Int.reduceNeg, Int.reduceAdd, Int.reduceSub, Int.reduceMul, Try.f53, kr53, kp53_5, ow53_5, ty3, ty4, ty22, ty27, ty34, tb4, g1, g4, g7, g8, t1, t2, t3, getD_of g2, getD_of g5, hx, cont]
theorem c_Contiguous (hE : (E.length : Int) ≤ 9223372036854775806) (hS : (S.length : Int) ≤ 9223372036854775806) (hb : base ≤ 9223372036854775807) :
    CALL 53 [Dsc base b1 c1 E b2 c2 S] = some (.tup [B (contQ base E S), I (errD base E S)], []) := by
  have h1 := c_Places base b1 b2 c1 c2 E S hE hS
  have n1 := placesQ_len base E S
  have n2 := fun x (hx : x ∈ placesQ base E S) => placesQ_bd hb hx
  unfold contQ errD
  unfold errD at h1
  refine lim_run (fn := Try.f53) fn53 rfl body53 (Nat.le_of_ble_eq_true rfl) ok53 ?_
  by_cases d1 : okD base E S
  · rw [if_pos d1] at h1
    generalize placesQ base E S = L at h1 n1 n2
    cases L with
    | nil => simp (config := { maxSteps := 1000000 }) (disch := omega) only [push_cast, ↓reduceIte, Nat.reduceEqDiff, Nat.reduceAdd, Nat.reduceLT, Nat.reduceLeDiff, Nat.reduceBEq, Nat.reduceMul, Nat.reduceSub, Int.reduceToNat, Int.reduceEq, Int.reduceLT, Int.reduceLE, Int.reduceNeg, Int.reduceAdd, Int.reduceSub, Int.reduceMul, Try.f53, kr53, kp53_5, ow53_5, ty3, ty4, ty22, ty27, ty34, tb4, h1, d1, cont, fun S0 => lp_eq (S0 := S0) (pr := pr0) lp53_5]
    | cons x r =>
      have hl := l_Cont5 (x :: r) n1 n2 r 0 x rfl
      simp only [cast1, List.length_append, List.length_cons, List.length_nil, Nat.zero_add, Nat.add_zero, Int.natCast_zero, Int.natCast_add, Int.zero_add, ints_1, ints_0, ] at hl
      simp (config := { maxSteps := 1000000 }) (disch := omega) only [push_cast, ↓reduceIte, Nat.reduceEqDiff, Nat.reduceAdd, Nat.reduceLT, Nat.reduceLeDiff, Nat.reduceBEq, Nat.reduceMul, Nat.reduceSub, Int.reduceToNat, Int.reduceEq, Int.reduceLT, Int.reduceLE, Int.reduceNeg, Int.reduceAdd, Int.reduceSub, Int.reduceMul, Try.f53, kr53, kp53_5, ow53_5, ty3, ty4, ty22, ty27, ty34, tb4, h1, d1, hl]
      cases cont (x :: r) <;> rfl
  · rw [if_neg d1] at h1
    simp (config := { maxSteps := 1000000 }) (disch := omega) only [push_cast, ↓reduceIte, Nat.reduceEqDiff, Nat.reduceAdd, Nat.reduceLT, Nat.reduceLeDiff, Nat.reduceBEq, Nat.reduceMul, Nat.reduceSub, Int.reduceToNat, Int.reduceEq, Int.reduceLT, Int.reduceLE, Int.reduceNeg, Int.reduceAdd, Int.reduceSub, Int.reduceMul, Try.f53, kr53, kp53_5, ow53_5, ty3, ty4, ty22, ty27, ty34, tb4, h1, d1]
theorem rl_Cont5 (L : List Int) (hL : L.length ≤ 4000) (hb : ∀ x ∈ L, 0 ≤ x ∧ x ≤ 2147483648) : ∀ (r : List Int) (i : Nat) (x : Int), L.drop i = x :: r →
    lp E0 pr0 58 5 ⟨[(4, .sl 0 0 L.length 1 none), (5, I (i + 1))], [(0, .arr (ints L) 0 1)], 1⟩ =
      if cont (x :: r) = true then some (.exit 0, ⟨[], [], 0⟩) else some (.ret, ⟨[(2, B false), (3, I 0)], [], 0⟩) := by
  intro r
  induction r with
  | nil =>
    intro i x h1
    obtain ⟨g1, g2, g3⟩ := drop_cons h1
    have h5 := drop_nil g3
    have h6 : ¬ (i : Int) + 1 < L.length := by omega
    rw [lp_eq lp58_5]
    simp (config := { maxSteps := 1000000 }) (disch := omega) only [push_cast, ↓reduceIte, Nat.reduceEqDiff, Nat.reduceAdd, Nat.reduceLT, Nat.reduceLeDiff, Nat.reduceBEq, Nat.reduceMul, Nat.reduceSub, Int.reduceToNat, Int.reduceEq, Int.reduceLT, Int.reduceLE, Int.reduceNeg, Int.reduceAdd, Int.reduceSub, Int.reduceMul, Try.f58, kr58, kp58_5, ow58_5, ty3, ty4, ty22, ty27, ty34, tb4, h6, cont]
  | cons y r ih =>
    intro i x h1
    obtain ⟨g1, g2, g3⟩ := drop_cons h1
    obtain ⟨g4, g5, g6⟩ := drop_cons g3
    have g8 : (i : Int) + 1 < L.length := by omega
    have g7 : (i : Int) < L.length := by omega
    have e0 := hb x (List.mem_of_getElem? g2)
    have t1 : ((i : Int) + 1).toNat = i + 1 := rfl
    have t2 : (i : Int) + 1 - 1 = i := by omega
    have t3 : 0 ≤ (i : Int) + 1 := by omega
    have ih' := ih (i + 1) y g3
    simp only [cast1, List.length_append, List.length_cons, List.length_nil, Nat.zero_add, Nat.add_zero, Int.natCast_zero, Int.natCast_add, Int.zero_add, ints_1, ints_0, ] at ih'
    rw [lp_eq lp58_5]
    by_cases hx : y = x + 1
    · simp (config := { maxSteps := 1000000 }) (disch := omega) only [push_cast, ↓reduceIte, Nat.reduceEqDiff, Nat.reduceAdd, Nat.reduceLT, Nat.reduceLeDiff, Nat.reduceBEq, Nat.reduceMul, Nat.reduceSub, Int.reduceToNat, Int.reduceEq, Int.reduceLT, Int.reduceLE, Int.reduceNeg, Int.reduceAdd, Int.reduceSub, Int.reduceMul, Try.f58, kr58, kp58_5, ow58_5, ty3, ty4, ty22, ty27, ty34, tb4, g1, g4, g7, g8, t1, t2, t3, getD_of g2, getD_of g5, hx, ih', cont]
    · simp (config := { maxSteps := 1000000 }) (disch := omega) only [push_cast, ↓reduceIte, Nat.reduceEqDiff, Nat.reduceAdd, Nat.reduceLT, Nat.reduceLeDiff, Nat.reduceBEq, Nat.reduceMul, Nat.reduceSub, Int.reduceToNat, Int.reduceEq, Int.reduceLT, Int.reduceLE, Int.reduceNeg, Int.reduceAdd, Int.reduceSub, Int.reduceMul, Try.f58, kr58, kp58_5, ow58_5, ty3, ty4, ty22, ty27, ty34, tb4, g1, g4, g7, g8, t1, t2, t3, getD_of g2, getD_of g5, hx, cont]
theorem r_Contiguous (hb : base ≤ 9223372036854775807) :
    CALL 58 [Dsc base b1 c1 E b2 c2 S] = some (.tup [B (contQ base E S), I (errD base E S)], []) := by
  have h1 := r_Valid base b1 b2 c1 c2 E S hb
  have n1 := placesQ_len base E S
  have n2 := fun x (hx : x ∈ placesQ base E S) => placesQ_bd hb hx
  unfold contQ errD
  refine lim_run (fn := Try.f58) fn58 rfl body58 (Nat.le_of_ble_eq_true rfl) ok58 ?_
  by_cases d1 : okD base E S
  · have h2 := r_places base b1 b2 c1 c2 E S d1.1 d1.2.1 d1.2.2.1
    rw [show plcR base E S = placesQ base E S from (if_pos d1).symm] at h2
    generalize placesQ base E S = L at h2 n1 n2
    cases L with
    | nil => simp (config := { maxSteps := 1000000 }) (disch := omega) only [push_cast, ↓reduceIte, Nat.reduceEqDiff, Nat.reduceAdd, Nat.reduceLT, Nat.reduceLeDiff, Nat.reduceBEq, Nat.reduceMul, Nat.reduceSub, Int.reduceToNat, Int.reduceEq, Int.reduceLT, Int.reduceLE, Int.reduceNeg, Int.reduceAdd, Int.reduceSub, Int.reduceMul, Try.f58, kr58, kp58_5, ow58_5, ty3, ty4, ty22, ty27, ty34, tb4, h1, h2, d1, cont, fun S0 => lp_eq (S0 := S0) (pr := pr0) lp58_5]
    | cons x r =>
      have hl := rl_Cont5 (x :: r) n1 n2 r 0 x rfl
      simp only [cast1, List.length_append, List.length_cons, List.length_nil, Nat.zero_add, Nat.add_zero, Int.natCast_zero, Int.natCast_add, Int.zero_add, ints_1, ints_0, ] at hl
      simp (config := { maxSteps := 1000000 }) (disch := omega) only [push_cast, ↓reduceIte, Nat.reduceEqDiff, Nat.reduceAdd, Nat.reduceLT, Nat.reduceLeDiff, Nat.reduceBEq, Nat.reduceMul, Nat.reduceSub, Int.reduceToNat, Int.reduceEq, Int.reduceLT, Int.reduceLE, Int.reduceNeg, Int.reduceAdd, Int.reduceSub, Int.reduceMul, Try.f58, kr58, kp58_5, ow58_5, ty3, ty4, ty22, ty27, ty34, tb4, h1, h2, d1, hl]
      cases cont (x :: r) <;> rfl
  · simp (config := { maxSteps := 1000000 }) (disch := omega) only [push_cast, ↓reduceIte, Nat.reduceEqDiff, Nat.reduceAdd, Nat.reduceLT, Nat.reduceLeDiff, Nat.reduceBEq, Nat.reduceMul, Nat.reduceSub, Int.reduceToNat, Int.reduceEq, Int.reduceLT, Int.reduceLE, Int.reduceNeg, Int.reduceAdd, Int.reduceSub, Int.reduceMul, Try.f58, kr58, kp58_5, ow58_5, ty3, ty4, ty22, ty27, ty34, tb4, h1, d1]
end
end Go.Proofs.Ytochkebkfoophaa.Tev
