/- The law ArguePacks: what it returns for any input. -/
import Derived.Test.YtochkebkfoophaaC24e
namespace Go.Proofs.Ytochkebkfoophaa.Tev
open Go Go.RowKit Go.Proofs Go.Proofs.Ytochkebkfoophaa.Q
set_option linter.unusedSectionVars false
set_option maxRecDepth 100000
set_option maxHeartbeats 0
set_option linter.unusedSimpArgs false
set_option linter.unusedVariables false
theorem set_self (m : List Int) (k : Nat) : m.set k (m.getD k 0) = m := by
  apply List.ext_getElem?
  intro i
  rw [List.getElem?_set]
  by_cases h : k = i
  · subst h
    by_cases h2 : k < m.length
    · simp [h2]
    · simp [h2]
  · simp [h]
theorem put_pick (m : List Int) : ∀ L : List Int, putL L (pickM m L) m = m
  | [] => rfl
  | x :: r => by
    show putL r (pickM m r) (m.set x.toNat (m.getD x.toNat 0)) = m
    rw [set_self, put_pick m r]
theorem back_err {m : List Int} {b : Int} {E S : List Int} (h : errP m b E S = 0) : errU m b E S (packQ m b E S) = 0 := by
  unfold errU packQ
  rw [if_pos h, if_pos h, pickM_len, if_pos rfl]
theorem back_unp {m : List Int} {b : Int} {E S : List Int} (h : errP m b E S = 0) : unpQ m b E S (packQ m b E S) = m := by
  unfold unpQ
  rw [if_pos (back_err h)]
  unfold packQ
  rw [if_pos h, put_pick]
theorem c_Large (q b : Bool) (c cm : Option Nat) (m : List Int) (l : List PassQ) : CALL 9 [SL b cm m.length (ints m), PsT q c l] = some (B (decide (20000 < (m.length : Int)) || decide (20 < (l.length : Int))), []) := by
  refine lim_run (fn := Try.f9) fn9 rfl body9 (Nat.le_of_ble_eq_true rfl) ok9 ?_
  simp (config := { maxSteps := 1000000 }) (disch := omega) only [push_cast, ↓reduceIte, Nat.reduceEqDiff, Nat.reduceAdd, Nat.reduceLT, Nat.reduceLeDiff, Nat.reduceBEq, Nat.reduceMul, Nat.reduceSub, Int.reduceToNat, Int.reduceEq, Int.reduceLT, Int.reduceLE, Int.reduceNeg, Int.reduceAdd, Int.reduceSub, Int.reduceMul, Try.f9, kr9, ty3, ty4, ty9, ty22, ty23, ty34, ty36, tb4]
  by_cases h : 20000 < (m.length : Int) <;> simp [h]
def okDscQ (d : DscQ) : Prop := (-9223372036854775808 ≤ d.1 ∧ d.1 ≤ 9223372036854775807) ∧ (d.2.1.length * 8 ≤ 140737488351232 ∧ ∀ a ∈ d.2.1, -9223372036854775808 ≤ a ∧ a ≤ 9223372036854775807) ∧ (d.2.2.length * 8 ≤ 140737488351232 ∧ ∀ a ∈ d.2.2, -9223372036854775808 ≤ a ∧ a ≤ 9223372036854775807)
def okIntsQ (m : List Int) : Prop := m.length * 8 ≤ 140737488351232 ∧ ∀ a ∈ m, -9223372036854775808 ≤ a ∧ a ≤ 9223372036854775807
theorem len_bd {xs : List Int} (h : xs.length * 8 ≤ 140737488351232) : (xs.length : Int) ≤ 9223372036854775806 := by omega
theorem unpQ_len (m : List Int) (b : Int) (E S l : List Int) : (unpQ m b E S l).length ≤ m.length := by
  unfold unpQ
  split
  · rw [putL_len]; omega
  · simp
theorem ArguePacks_true' (m : List Int) (b : Int) (E S l : List Int) (hm : (m.length : Int) ≤ 9223372036854775806) (hb : b ≤ 9223372036854775807) (hE : (E.length : Int) ≤ 9223372036854775806) (hS : (S.length : Int) ≤ 9223372036854775806) (hl : (l.length : Int) ≤ 9223372036854775806) :
    CALL 4 [SL true none m.length (ints m), Dsc b true none E true none S, SL true none l.length (ints l)] = some (B true, []) := by
  have hL := c_Large true true (some 0) none m []
  by_cases h1 : 20000 < (m.length : Int)
  · rw [decide_eq_true h1, Bool.true_or] at hL
    simp only [PsT, List.flatMap_nil, List.length_nil] at hL
    refine lim_run (fn := Try.f4) fn4 rfl body4 (Nat.le_of_ble_eq_true rfl) ok4 ?_
    simp (config := { maxSteps := 1000000 }) (disch := omega) only [push_cast, ↓reduceIte, Nat.reduceEqDiff, Nat.reduceAdd, Nat.reduceLT, Nat.reduceLeDiff, Nat.reduceBEq, Nat.reduceMul, Nat.reduceSub, Int.reduceToNat, Int.reduceEq, Int.reduceLT, Int.reduceLE, Int.reduceNeg, Int.reduceAdd, Int.reduceSub, Int.reduceMul, Try.f4, kr4, ty3, ty4, ty22, ty34, tb4, hL, c_Awake]
  · rw [decide_eq_false h1] at hL
    simp only [PsT, List.flatMap_nil, List.length_nil, Bool.false_or, Int.natCast_zero, show decide (20 < (0 : Int)) = false by decide] at hL
    by_cases h2 : 20000 < (l.length : Int)
    · refine lim_run (fn := Try.f4) fn4 rfl body4 (Nat.le_of_ble_eq_true rfl) ok4 ?_
      simp (config := { maxSteps := 1000000 }) (disch := omega) only [push_cast, ↓reduceIte, Nat.reduceEqDiff, Nat.reduceAdd, Nat.reduceLT, Nat.reduceLeDiff, Nat.reduceBEq, Nat.reduceMul, Nat.reduceSub, Int.reduceToNat, Int.reduceEq, Int.reduceLT, Int.reduceLE, Int.reduceNeg, Int.reduceAdd, Int.reduceSub, Int.reduceMul, Try.f4, kr4, ty3, ty4, ty22, ty34, tb4, hL, h2, c_Awake]
    · have p1 := c_Pack b true true true none none none m E S hE hS hm hb
      have p2 := r_Pack b true true true none none none m E S hb hm
      have u1 := c_Unpack b true true true true none none none none m E S l hE hS hm hl hb
      have u2 := r_Unpack b true true true true none none none none m E S l hb hm hl
      have n1 := packQ_len m b E S
      have n2 := unpQ_len m b E S l
      have s1 := r_SameInts false false none none (packQ m b E S) (packQ m b E S) (by omega)
      have s2 := r_SameInts false false none none (unpQ m b E S l) (unpQ m b E S l) (by omega)
      rw [decide_eq_true rfl] at s1 s2
      by_cases he : errP m b E S = 0
      · have u3 := c_Unpack b true true true false none none none none m E S (packQ m b E S) hE hS hm (by omega) hb
        rw [back_err he, back_unp he] at u3
        have s3 := r_SameInts false true none none m m hm
        rw [decide_eq_true rfl] at s3
        rw [he] at p1 p2
        refine lim_run (fn := Try.f4) fn4 rfl body4 (Nat.le_of_ble_eq_true rfl) ok4 ?_
        simp (config := { maxSteps := 1000000 }) (disch := omega) only [push_cast, ↓reduceIte, Nat.reduceEqDiff, Nat.reduceAdd, Nat.reduceLT, Nat.reduceLeDiff, Nat.reduceBEq, Nat.reduceMul, Nat.reduceSub, Int.reduceToNat, Int.reduceEq, Int.reduceLT, Int.reduceLE, Int.reduceNeg, Int.reduceAdd, Int.reduceSub, Int.reduceMul, Try.f4, kr4, ty3, ty4, ty22, ty34, tb4, hL, h2, p1, p2, u1, u2, u3, s1, s2, s3, c_Awake]
      · refine lim_run (fn := Try.f4) fn4 rfl body4 (Nat.le_of_ble_eq_true rfl) ok4 ?_
        simp (config := { maxSteps := 1000000 }) (disch := omega) only [push_cast, ↓reduceIte, Nat.reduceEqDiff, Nat.reduceAdd, Nat.reduceLT, Nat.reduceLeDiff, Nat.reduceBEq, Nat.reduceMul, Nat.reduceSub, Int.reduceToNat, Int.reduceEq, Int.reduceLT, Int.reduceLE, Int.reduceNeg, Int.reduceAdd, Int.reduceSub, Int.reduceMul, Try.f4, kr4, ty3, ty4, ty22, ty34, tb4, hL, h2, p1, p2, u1, u2, s1, s2, he, c_Awake]
theorem ArguePacks_true (m : List Int) (d : DscQ) (l : List Int) (hm : okIntsQ m) (hd : okDscQ d) (hl : okIntsQ l) : CALL 4 [SL true none m.length (ints m), Dsc d.1 true none d.2.1 true none d.2.2, SL true none l.length (ints l)] = some (B true, []) :=
  ArguePacks_true' m d.1 d.2.1 d.2.2 l (len_bd hm.1) hd.1.2 (len_bd hd.2.1.1) (len_bd hd.2.2.1) (len_bd hl.1)
end Go.Proofs.Ytochkebkfoophaa.Tev
