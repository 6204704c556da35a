/- The law SectionPicks: what it returns for any descriptor and lists. -/
import Derived.Test.YticjlkommabcjaaC06q
import Derived.Test.YticjlkommabcjaaCTwr
import Derived.Test.YticjlkommabcjaaC06Awake
import Derived.Test.YticjlkommabcjaaC06lay
namespace Go.Proofs.Yticjlkommabcjaa.Tev
open Go Go.RowKit Go.Proofs Go.Proofs.Yticjlkommabcjaa.Q
set_option linter.unusedSectionVars false
set_option maxRecDepth 100000
set_option maxHeartbeats 0
set_option linter.unusedSimpArgs false
set_option linter.unusedVariables false
theorem awake1 : CALL1 14 [] = some (B true, []) := old1 (by decide) c_Awake
theorem ll_Picks4 (base : Int) (E S : List Int) (L : List (List Int)) (hL : L.length ≤ 10) (hb : ∀ l ∈ L, l.length * 8 ≤ 140737488351232) : ∀ (r : List (List Int)) (i : Nat), L.drop i = r →
    lp E0 pr1 11 4 ⟨[(1, LT true none L), (2, .pt 0 0), (5, I i)], [(0, .box [I base, SL true none E.length (ints E), SL true none S.length (ints S)])], 1⟩ =
      if ∀ l ∈ r, l.length ≤ 6000 then some (.exit 0, ⟨[(1, LT true none L), (2, .pt 0 0)], [(0, .box [I base, SL true none E.length (ints E), SL true none S.length (ints S)])], 1⟩) else some (.ret, ⟨[(4, B true)], [], 0⟩) := by
  intro r
  induction r with
  | nil =>
    intro i h1
    have h4 := drop_nil h1
    have h5 : ¬ (i : Int) < L.length := by omega
    rw [lp_eq lp11_4]
    simp (config := { maxSteps := 1000000 }) (disch := omega) only [push_cast, ↓reduceIte, Nat.reduceEqDiff, Nat.reduceAdd, Nat.reduceLT, Nat.reduceLeDiff, Nat.reduceBEq, Nat.reduceMul, Nat.reduceSub, Int.reduceToNat, Int.reduceEq, Int.reduceLT, Int.reduceLE, Int.reduceNeg, Int.reduceAdd, Int.reduceSub, Int.reduceMul, Try.f11, kr11, kp11_4, ow11_4, ty3, ty4, ty29, ty31, ty51, tb4, h5]
    simp
  | cons l r ih =>
    intro i h1
    obtain ⟨h4, h5, h7⟩ := drop_cons h1
    have h8 : (i : Int) < L.length := by omega
    have hl := hb l (List.mem_of_getElem? h5)
    have ih' := ih (i + 1) h7
    simp only [cast1, List.length_append, List.length_cons, List.length_nil, Nat.zero_add, Nat.add_zero, Int.natCast_zero, Int.natCast_add, Int.zero_add, ints_1, ints_0, ] at ih'
    rw [lp_eq lp11_4]
    by_cases hx : l.length ≤ 6000
    · have hx' : ¬ 6000 < (l.length : Int) := by omega
      simp (config := { maxSteps := 1000000 }) (disch := omega) only [push_cast, ↓reduceIte, Nat.reduceEqDiff, Nat.reduceAdd, Nat.reduceLT, Nat.reduceLeDiff, Nat.reduceBEq, Nat.reduceMul, Nat.reduceSub, Int.reduceToNat, Int.reduceEq, Int.reduceLT, Int.reduceLE, Int.reduceNeg, Int.reduceAdd, Int.reduceSub, Int.reduceMul, Try.f11, kr11, kp11_4, ow11_4, ty3, ty4, ty29, ty31, ty51, tb4, h4, h8, lc_at h5, hx', ih', List.forall_mem_cons, eq_true hx]
    · have hx' : 6000 < (l.length : Int) := by omega
      simp (config := { maxSteps := 1000000 }) (disch := omega) only [push_cast, ↓reduceIte, Nat.reduceEqDiff, Nat.reduceAdd, Nat.reduceLT, Nat.reduceLeDiff, Nat.reduceBEq, Nat.reduceMul, Nat.reduceSub, Int.reduceToNat, Int.reduceEq, Int.reduceLT, Int.reduceLE, Int.reduceNeg, Int.reduceAdd, Int.reduceSub, Int.reduceMul, Try.f11, kr11, kp11_4, ow11_4, ty3, ty4, ty29, ty31, ty51, tb4, h4, h8, lc_at h5, hx', awake1, List.forall_mem_cons, eq_false hx]
theorem nodup2 (l : List Int) : decide (¬ (l ++ l).Nodup) = decide (0 < (l.length : Int)) := by
  rw [decide_eq_decide]
  cases l with
  | nil => simp
  | cons x l => simp
theorem SectionPicks_true' (base : Int) (E S : List Int) (L : List (List Int)) (hb : base ≤ 9223372036854775807) (hE : (E.length : Int) ≤ 9223372036854775806) (hS : (S.length : Int) ≤ 9223372036854775806) (hL : L.length * 24 ≤ 140737488351232) (hl : ∀ l ∈ L, l.length * 8 ≤ 140737488351232) :
    CALL1 11 [Dsc base true none E true none S, LT true none L] = some (B true, []) := by
  refine lim_run (fn := Try.f11) fn11 (pr1_none (by decide) _) body11 (Nat.le_of_ble_eq_true rfl) ok11 ?_
  by_cases h10 : 10 < (L.length : Int)
  · simp (config := { maxSteps := 1000000 }) (disch := omega) only [push_cast, ↓reduceIte, Nat.reduceEqDiff, Nat.reduceAdd, Nat.reduceLT, Nat.reduceLeDiff, Nat.reduceBEq, Nat.reduceMul, Nat.reduceSub, Int.reduceToNat, Int.reduceEq, Int.reduceLT, Int.reduceLE, Int.reduceNeg, Int.reduceAdd, Int.reduceSub, Int.reduceMul, Try.f11, kr11, kp11_4, ow11_4, ty3, ty4, ty29, ty31, ty51, tb4, h10, awake1]
  · have hloop := ll_Picks4 base E S L (by omega) hl L 0 rfl
    simp only [cast1, List.length_append, List.length_cons, List.length_nil, Nat.zero_add, Nat.add_zero, Int.natCast_zero, Int.natCast_add, Int.zero_add, ints_1, ints_0, ] at hloop
    by_cases h6 : ∀ l ∈ L, l.length ≤ 6000
    · rw [if_pos h6] at hloop
      have k1 := old1 (by decide) (c_Pick base true true true none none none E S L hE hS (by omega) h6)
      have k2 := old1 (by decide) (r_Pick base true true true none none none E S L hb hE (by omega) h6)
      have n1 := pickQ_len base E S L
      have k3 := fun b c => s1_Twice b c (pickQ base E S L) (by omega)
      have k4 := fun b c => old1 (by decide) (r_Twice b c (pickQ base E S L) (by omega))
      have k5 := fun b c => s1_Twice b c (pickQ base E S L ++ pickQ base E S L) (by rw [List.length_append]; omega)
      have k6 := fun b1 c1 b2 c2 => old1 (by decide) (r_SameInts b1 b2 c1 c2 (pickQ base E S L) (pickQ base E S L) (by omega))
      rw [nodup2] at k5
      simp only [List.length_append] at k5
      simp (config := { maxSteps := 1000000 }) (disch := omega) only [push_cast, ↓reduceIte, Nat.reduceEqDiff, Nat.reduceAdd, Nat.reduceLT, Nat.reduceLeDiff, Nat.reduceBEq, Nat.reduceMul, Nat.reduceSub, Int.reduceToNat, Int.reduceEq, Int.reduceLT, Int.reduceLE, Int.reduceNeg, Int.reduceAdd, Int.reduceSub, Int.reduceMul, Try.f11, kr11, kp11_4, ow11_4, ty3, ty4, ty29, ty31, ty51, tb4, h10, hloop, k1, k2, k3, k4, k5, k6, awake1, ne_eq]
    · rw [if_neg h6] at hloop
      simp (config := { maxSteps := 1000000 }) (disch := omega) only [push_cast, ↓reduceIte, Nat.reduceEqDiff, Nat.reduceAdd, Nat.reduceLT, Nat.reduceLeDiff, Nat.reduceBEq, Nat.reduceMul, Nat.reduceSub, Int.reduceToNat, Int.reduceEq, Int.reduceLT, Int.reduceLE, Int.reduceNeg, Int.reduceAdd, Int.reduceSub, Int.reduceMul, Try.f11, kr11, kp11_4, ow11_4, ty3, ty4, ty29, ty31, ty51, tb4, h10, hloop]
abbrev DscQ6 := Int × List Int × List Int
def okDsc6 (d : DscQ6) : Prop := (-9223372036854775808 ≤ d.1 ∧ d.1 ≤ 9223372036854775807) ∧ (d.2.1.length * 8 ≤ 140737488351232 ∧ ∀ a ∈ d.2.1, -9223372036854775808 ≤ a ∧ a ≤ 9223372036854775807) ∧ (d.2.2.length * 8 ≤ 140737488351232 ∧ ∀ a ∈ d.2.2, -9223372036854775808 ≤ a ∧ a ≤ 9223372036854775807)
theorem SectionPicks_true (d : DscQ6) (L : List (List Int)) (hd : okDsc6 d) (hL : L.length * 24 ≤ 140737488351232 ∧ ∀ l ∈ L, l.length * 8 ≤ 140737488351232 ∧ ∀ a ∈ l, -9223372036854775808 ≤ a ∧ a ≤ 9223372036854775807) :
    CALL1 11 [Dsc d.1 true none d.2.1 true none d.2.2, .c (.s none L.length (L.flatMap fun l => [.s none l.length (ints l)]))] = some (B true, []) :=
  SectionPicks_true' d.1 d.2.1 d.2.2 L hd.1.2 (by have := hd.2.1.1; omega) (by have := hd.2.2.1; omega) hL.1 fun l hl => (hL.2 l hl).1
end Go.Proofs.Yticjlkommabcjaa.Tev
