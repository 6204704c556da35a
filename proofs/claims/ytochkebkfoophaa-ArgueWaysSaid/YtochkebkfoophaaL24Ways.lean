/- The law ArgueWays: what it returns for any input. -/
import Derived.Test.YtochkebkfoophaaC24w
import Derived.Test.YtochkebkfoophaaL24Packs
namespace Go.Proofs.Ytochkebkfoophaa.Tev
open Go Go.RowKit Go.Proofs Go.Proofs.Ytochkebkfoophaa.Q
set_option linter.unusedSectionVars false
set_option maxRecDepth 100000
set_option maxHeartbeats 0
set_option linter.unusedSimpArgs false
set_option linter.unusedVariables false
theorem awake1 : CALL1 10 [] = some (B true, []) := old1 (by decide) c_Awake
theorem own_len (h : ByteArray) (l : List PassQ) : (ownL h l).length = l.length := by unfold ownL; rw [List.length_map]
theorem own_bd {h : ByteArray} {l : List PassQ} (hb : ∀ p ∈ l, bdP p) : ∀ p ∈ ownL h l, bdP p := fun p hp => by
  unfold ownL at hp
  obtain ⟨z, hz, rfl⟩ := List.mem_map.1 hp
  have := hb z hz
  split <;> exact this
/-- A deed that the law lets through, as a test. -/
def okDB (l : List PassQ) (x : ChgQ) : Bool := decide (0 ≤ x.1) && match l[x.1.toNat]? with
  | some p => p.2.2 && decide (p.2.1 ≠ (ByteArray.mk #[118, 97, 108, 117, 101]))
  | none => false
theorem okDB_iff {l : List PassQ} {x : ChgQ} (h : okDB l x = true) : okDeed l x := by
  unfold okDB at h
  simp only [Bool.and_eq_true, decide_eq_true_eq] at h
  obtain ⟨h1, h2⟩ := h
  split at h2
  · rename_i p hp
    simp only [Bool.and_eq_true, decide_eq_true_eq] at h2
    exact ⟨h1, p, hp, h2.1, h2.2⟩
  · simp at h2
theorem sp_how (pre r : List PassQ) (p : PassQ) (h : ByteArray) (i : Nat) (hi : pre.length = i) : splice ((pre ++ p :: r).flatMap passC) (i * 5 + 3) [C.v (.string h)] = (pre ++ (p.1, h, p.2.2) :: r).flatMap passC := by
  have hl := flat_len passC_len pre
  rw [hi] at hl
  rw [List.flatMap_append, List.flatMap_append, List.flatMap_cons, List.flatMap_cons]
  generalize pre.flatMap passC = A at hl
  generalize r.flatMap passC = R
  unfold splice
  rw [List.take_append, List.drop_append, hl]
  rw [List.take_of_length_le (by omega), List.drop_of_length_le (by simp; omega)]
  rw [show i * 5 + 3 - i * 5 = 3 by omega, show i * 5 + 3 + [C.v (Value.string h)].length - i * 5 = 4 by simp; omega]
  simp [passC]
abbrev HW : List C := [.v (.string (ByteArray.mk #[115, 104, 97, 114, 101])), .v (.string (ByteArray.mk #[99, 111, 112, 121])), .v (.string (ByteArray.mk #[97, 117, 116, 111]))]
section
variable (m : List Int) (l : List PassQ) (X : List ChgQ)
theorem ll_Ways7 (hl8 : l.length ≤ 8) (hX : (X.length : Int) ≤ 60) : ∀ (r : List ChgQ) (i : Nat), X.drop i = r →
    lp E0 pr1 8 7 ⟨[(0, SL true none m.length (ints m)), (1, PsT true none l), (2, ChT true none X), (10, I i)], [], 0⟩ =
      if r.all (okDB l) = true then some (.exit 0, ⟨[(0, SL true none m.length (ints m)), (1, PsT true none l), (2, ChT true none X)], [], 0⟩) else some (.ret, ⟨[(6, B true)], [], 0⟩) := by
  intro r
  induction r with
  | nil =>
    intro i h1
    have h5 := drop_nil h1
    have h6 : ¬ (i : Int) < X.length := by omega
    rw [lp_eq lp8_7]
    simp (config := { maxSteps := 1000000 }) (disch := omega) only [push_cast, ↓reduceIte, Nat.reduceEqDiff, Nat.reduceAdd, Nat.reduceLT, Nat.reduceLeDiff, Nat.reduceBEq, Nat.reduceMul, Nat.reduceSub, Int.reduceToNat, Int.reduceEq, Int.reduceLT, Int.reduceLE, Int.reduceNeg, Int.reduceAdd, Int.reduceSub, Int.reduceMul, Try.f8, kr8, kp8_19, kp8_15, kp8_7, ow8_19, ow8_15, ow8_7, ty3, ty4, ty9, ty22, ty23, ty34, ty36, ty50, ty52, ty53, tb4, h6, List.all_nil]
  | cons x r ih =>
    intro i h1
    obtain ⟨g1, g2, g3⟩ := drop_cons h1
    have g8 : (i : Int) < X.length := by omega
    have ih' := ih (i + 1) g3
    simp only [cast1, List.length_append, List.length_cons, List.length_nil, Nat.zero_add, Nat.add_zero, Int.natCast_zero, Int.natCast_add, Int.zero_add, ints_1, ints_0, ] at ih'
    rw [List.all_cons]
    rw [lp_eq lp8_7]
    by_cases k1 : x.1 < 0
    · have hn : okDB l x = false := by unfold okDB; rw [decide_eq_false (by omega)]; rfl
      simp (config := { maxSteps := 1000000 }) (disch := omega) only [push_cast, ↓reduceIte, Nat.reduceEqDiff, Nat.reduceAdd, Nat.reduceLT, Nat.reduceLeDiff, Nat.reduceBEq, Nat.reduceMul, Nat.reduceSub, Int.reduceToNat, Int.reduceEq, Int.reduceLT, Int.reduceLE, Int.reduceNeg, Int.reduceAdd, Int.reduceSub, Int.reduceMul, Try.f8, kr8, kp8_19, kp8_15, kp8_7, ow8_19, ow8_15, ow8_7, ty3, ty4, ty9, ty22, ty23, ty34, ty36, ty50, ty52, ty53, tb4, g1, g8, ch0 g2, ch1 g2, ch2 g2, ch3 g2, k1, hn, awake1]
    · by_cases k2 : (l.length : Int) ≤ x.1
      · have hn : okDB l x = false := by
          unfold okDB
          rw [List.getElem?_eq_none (by omega), Bool.and_false]
        simp (config := { maxSteps := 1000000 }) (disch := omega) only [push_cast, ↓reduceIte, Nat.reduceEqDiff, Nat.reduceAdd, Nat.reduceLT, Nat.reduceLeDiff, Nat.reduceBEq, Nat.reduceMul, Nat.reduceSub, Int.reduceToNat, Int.reduceEq, Int.reduceLT, Int.reduceLE, Int.reduceNeg, Int.reduceAdd, Int.reduceSub, Int.reduceMul, Try.f8, kr8, kp8_19, kp8_15, kp8_7, ow8_19, ow8_15, ow8_7, ty3, ty4, ty9, ty22, ty23, ty34, ty36, ty50, ty52, ty53, tb4, g1, g8, ch0 g2, ch1 g2, ch2 g2, ch3 g2, k1, k2, hn, awake1]
      · obtain ⟨n, hn⟩ : ∃ n : Nat, x.1 = n := ⟨x.1.toNat, by omega⟩
        have hnl : n < l.length := by omega
        obtain ⟨p, hp⟩ : ∃ p, l[n]? = some p := ⟨l[n], List.getElem?_eq_getElem hnl⟩
        have f1 : 0 ≤ (n : Int) := by omega
        have f2 : (n : Int) < l.length := by omega
        have ho : okDB l x = (p.2.2 && decide (p.2.1 ≠ (ByteArray.mk #[118, 97, 108, 117, 101]))) := by
          unfold okDB
          rw [hn, Int.toNat_natCast, hp, decide_eq_true (by omega)]
          rfl
        rw [hn] at k1 k2
        cases hc : p.2.2 with
        | false =>
          rw [hc] at ho
          simp (config := { maxSteps := 1000000 }) (disch := omega) only [push_cast, ↓reduceIte, Nat.reduceEqDiff, Nat.reduceAdd, Nat.reduceLT, Nat.reduceLeDiff, Nat.reduceBEq, Nat.reduceMul, Nat.reduceSub, Int.reduceToNat, Int.reduceEq, Int.reduceLT, Int.reduceLE, Int.reduceNeg, Int.reduceAdd, Int.reduceSub, Int.reduceMul, Try.f8, kr8, kp8_19, kp8_15, kp8_7, ow8_19, ow8_15, ow8_7, ty3, ty4, ty9, ty22, ty23, ty34, ty36, ty50, ty52, ty53, tb4, g1, g8, ch0 g2, ch1 g2, ch2 g2, ch3 g2, hn, k1, k2, hnl, f1, f2, ps3 hp, ps4 hp, hc, ho, awake1]
        | true =>
          rw [hc] at ho
          by_cases hv : p.2.1 = (ByteArray.mk #[118, 97, 108, 117, 101])
          · simp (config := { maxSteps := 1000000 }) (disch := omega) only [push_cast, ↓reduceIte, Nat.reduceEqDiff, Nat.reduceAdd, Nat.reduceLT, Nat.reduceLeDiff, Nat.reduceBEq, Nat.reduceMul, Nat.reduceSub, Int.reduceToNat, Int.reduceEq, Int.reduceLT, Int.reduceLE, Int.reduceNeg, Int.reduceAdd, Int.reduceSub, Int.reduceMul, Try.f8, kr8, kp8_19, kp8_15, kp8_7, ow8_19, ow8_15, ow8_7, ty3, ty4, ty9, ty22, ty23, ty34, ty36, ty50, ty52, ty53, tb4, g1, g8, ch0 g2, ch1 g2, ch2 g2, ch3 g2, hn, k1, k2, hnl, f1, f2, ps3 hp, ps4 hp, hc, hv, ho, awake1, ne_eq]
          · simp (config := { maxSteps := 1000000 }) (disch := omega) only [push_cast, ↓reduceIte, Nat.reduceEqDiff, Nat.reduceAdd, Nat.reduceLT, Nat.reduceLeDiff, Nat.reduceBEq, Nat.reduceMul, Nat.reduceSub, Int.reduceToNat, Int.reduceEq, Int.reduceLT, Int.reduceLE, Int.reduceNeg, Int.reduceAdd, Int.reduceSub, Int.reduceMul, Try.f8, kr8, kp8_19, kp8_15, kp8_7, ow8_19, ow8_15, ow8_7, ty3, ty4, ty9, ty22, ty23, ty34, ty36, ty50, ty52, ty53, tb4, g1, g8, ch0 g2, ch1 g2, ch2 g2, ch3 g2, hn, k1, k2, hnl, f1, f2, ps3 hp, ps4 hp, hc, hv, ho, ih', ne_eq]
theorem ll_Ways19a (w : Nat) (h : ByteArray) (hw : HW[w]? = some (.v (.string h))) (hw3 : w < 3) (hl8 : l.length ≤ 8) : ∀ (r pre : List PassQ) (i : Nat) (cp : Option Nat), pre.length = i → pre.length + r.length = l.length →
    lp E0 pr1 8 19 ⟨[(0, SL true none m.length (ints m)), (1, PsT true none l), (2, ChT true none X), (12, nilC), (13, .sl 0 0 3 1 (some 3)), (14, I w), (15, .sl 1 0 l.length 5 cp), (16, I i)], [(0, .arr HW 0 1), (1, .arr ((pre ++ r).flatMap passC) 1 1)], 2⟩ =
      some (.exit 4, ⟨[(0, SL true none m.length (ints m)), (1, PsT true none l), (2, ChT true none X), (12, nilC), (13, .sl 0 0 3 1 (some 3)), (14, I w), (15, .sl 1 0 l.length 5 cp)], [(0, .arr HW 0 1), (1, .arr ((pre ++ ownL h r).flatMap passC) 1 1)], 2⟩) := by
  have hw4 : (w : Int) < 3 := by omega
  have hw5 : 0 ≤ (w : Int) := by omega
  intro r
  induction r with
  | nil =>
    intro pre i cp h1 h2
    have h6 : ¬ (i : Int) < l.length := by simp at h2; omega
    rw [lp_eq lp8_19]
    simp (config := { maxSteps := 1000000 }) (disch := omega) only [push_cast, ↓reduceIte, Nat.reduceEqDiff, Nat.reduceAdd, Nat.reduceLT, Nat.reduceLeDiff, Nat.reduceBEq, Nat.reduceMul, Nat.reduceSub, Int.reduceToNat, Int.reduceEq, Int.reduceLT, Int.reduceLE, Int.reduceNeg, Int.reduceAdd, Int.reduceSub, Int.reduceMul, Try.f8, kr8, kp8_19, kp8_15, kp8_7, ow8_19, ow8_15, ow8_7, ty3, ty4, ty9, ty22, ty23, ty34, ty36, ty50, ty52, ty53, tb4, h6]
    simp [ownL]
  | cons p r ih =>
    intro pre i cp h1 h2
    rw [List.length_cons] at h2
    have g8 : (i : Int) < l.length := by omega
    have g1 : i < l.length := by omega
    have hp : (pre ++ p :: r)[i]? = some p := by rw [List.getElem?_append_right (by omega)]; simp [h1]
    have fl : ((pre ++ p :: r).flatMap passC).length = l.length * 5 := by rw [flat_len passC_len, List.length_append, List.length_cons, h2]
    have f5 : i * 5 + 3 + 1 ≤ l.length * 5 := by omega
    have fr : 0 ≤ (i : Int) := by omega
    rw [lp_eq lp8_19]
    by_cases hv : p.2.1 = (ByteArray.mk #[118, 97, 108, 117, 101])
    · have ih' := ih (pre ++ [p]) (i + 1) cp (by simp [h1]) (by simp; omega)
      rw [List.append_assoc, List.singleton_append] at ih'
      have e : pre ++ [p] ++ ownL h r = pre ++ ownL h (p :: r) := by unfold ownL; rw [List.map_cons, if_pos hv]; simp
      rw [e] at ih'
      simp only [cast1, List.length_append, List.length_cons, List.length_nil, Nat.zero_add, Nat.add_zero, Int.natCast_zero, Int.natCast_add, Int.zero_add, ints_1, ints_0, ] at ih'
      simp (config := { maxSteps := 1000000 }) (disch := omega) only [push_cast, ↓reduceIte, Nat.reduceEqDiff, Nat.reduceAdd, Nat.reduceLT, Nat.reduceLeDiff, Nat.reduceBEq, Nat.reduceMul, Nat.reduceSub, Int.reduceToNat, Int.reduceEq, Int.reduceLT, Int.reduceLE, Int.reduceNeg, Int.reduceAdd, Int.reduceSub, Int.reduceMul, Try.f8, kr8, kp8_19, kp8_15, kp8_7, ow8_19, ow8_15, ow8_7, ty3, ty4, ty9, ty22, ty23, ty34, ty36, ty50, ty52, ty53, tb4, g1, g8, fr, ps3 hp, hv, ih', ne_eq]
    · have ih' := ih (pre ++ [(p.1, h, p.2.2)]) (i + 1) cp (by simp [h1]) (by simp; omega)
      rw [List.append_assoc, List.singleton_append] at ih'
      have e : pre ++ [(p.1, h, p.2.2)] ++ ownL h r = pre ++ ownL h (p :: r) := by unfold ownL; rw [List.map_cons, if_neg hv]; simp
      rw [e] at ih'
      have sp := sp_how pre r p h i h1
      simp only [cast1, List.length_append, List.length_cons, List.length_nil, Nat.zero_add, Nat.add_zero, Int.natCast_zero, Int.natCast_add, Int.zero_add, ints_1, ints_0, ] at ih'
      simp (config := { maxSteps := 1000000 }) (disch := omega) only [push_cast, ↓reduceIte, Nat.reduceEqDiff, Nat.reduceAdd, Nat.reduceLT, Nat.reduceLeDiff, Nat.reduceBEq, Nat.reduceMul, Nat.reduceSub, Int.reduceToNat, Int.reduceEq, Int.reduceLT, Int.reduceLE, Int.reduceNeg, Int.reduceAdd, Int.reduceSub, Int.reduceMul, Try.f8, kr8, kp8_19, kp8_15, kp8_7, ow8_19, ow8_15, ow8_7, ty3, ty4, ty9, ty22, ty23, ty34, ty36, ty50, ty52, ty53, tb4, g1, g8, fr, ps3 hp, hv, hw, hw3, hw4, hw5, fl, f5, sp, ih', ne_eq]
theorem ll_Ways19b (W : List Int) (w : Nat) (h : ByteArray) (hw : HW[w]? = some (.v (.string h))) (hw3 : w < 3) (hl8 : l.length ≤ 8) : ∀ (r pre : List PassQ) (i : Nat) (cp : Option Nat), pre.length = i → pre.length + r.length = l.length →
    lp E0 pr1 8 19 ⟨[(0, SL true none m.length (ints m)), (1, PsT true none l), (2, ChT true none X), (12, .sl 0 0 W.length 1 none), (13, .sl 1 0 3 1 (some 3)), (14, I w), (15, .sl 2 0 l.length 5 cp), (16, I i)], [(0, .arr (ints W) 0 1), (1, .arr HW 1 1), (2, .arr ((pre ++ r).flatMap passC) 2 1)], 3⟩ =
      some (.exit 4, ⟨[(0, SL true none m.length (ints m)), (1, PsT true none l), (2, ChT true none X), (12, .sl 0 0 W.length 1 none), (13, .sl 1 0 3 1 (some 3)), (14, I w), (15, .sl 2 0 l.length 5 cp)], [(0, .arr (ints W) 0 1), (1, .arr HW 1 1), (2, .arr ((pre ++ ownL h r).flatMap passC) 2 1)], 3⟩) := by
  have hw4 : (w : Int) < 3 := by omega
  have hw5 : 0 ≤ (w : Int) := by omega
  intro r
  induction r with
  | nil =>
    intro pre i cp h1 h2
    have h6 : ¬ (i : Int) < l.length := by simp at h2; omega
    rw [lp_eq lp8_19]
    simp (config := { maxSteps := 1000000 }) (disch := omega) only [push_cast, ↓reduceIte, Nat.reduceEqDiff, Nat.reduceAdd, Nat.reduceLT, Nat.reduceLeDiff, Nat.reduceBEq, Nat.reduceMul, Nat.reduceSub, Int.reduceToNat, Int.reduceEq, Int.reduceLT, Int.reduceLE, Int.reduceNeg, Int.reduceAdd, Int.reduceSub, Int.reduceMul, Try.f8, kr8, kp8_19, kp8_15, kp8_7, ow8_19, ow8_15, ow8_7, ty3, ty4, ty9, ty22, ty23, ty34, ty36, ty50, ty52, ty53, tb4, h6]
    simp [ownL]
  | cons p r ih =>
    intro pre i cp h1 h2
    rw [List.length_cons] at h2
    have g8 : (i : Int) < l.length := by omega
    have g1 : i < l.length := by omega
    have hp : (pre ++ p :: r)[i]? = some p := by rw [List.getElem?_append_right (by omega)]; simp [h1]
    have fl : ((pre ++ p :: r).flatMap passC).length = l.length * 5 := by rw [flat_len passC_len, List.length_append, List.length_cons, h2]
    have f5 : i * 5 + 3 + 1 ≤ l.length * 5 := by omega
    have fr : 0 ≤ (i : Int) := by omega
    rw [lp_eq lp8_19]
    by_cases hv : p.2.1 = (ByteArray.mk #[118, 97, 108, 117, 101])
    · have ih' := ih (pre ++ [p]) (i + 1) cp (by simp [h1]) (by simp; omega)
      rw [List.append_assoc, List.singleton_append] at ih'
      have e : pre ++ [p] ++ ownL h r = pre ++ ownL h (p :: r) := by unfold ownL; rw [List.map_cons, if_pos hv]; simp
      rw [e] at ih'
      simp only [cast1, List.length_append, List.length_cons, List.length_nil, Nat.zero_add, Nat.add_zero, Int.natCast_zero, Int.natCast_add, Int.zero_add, ints_1, ints_0, ] at ih'
      simp (config := { maxSteps := 1000000 }) (disch := omega) only [push_cast, ↓reduceIte, Nat.reduceEqDiff, Nat.reduceAdd, Nat.reduceLT, Nat.reduceLeDiff, Nat.reduceBEq, Nat.reduceMul, Nat.reduceSub, Int.reduceToNat, Int.reduceEq, Int.reduceLT, Int.reduceLE, Int.reduceNeg, Int.reduceAdd, Int.reduceSub, Int.reduceMul, Try.f8, kr8, kp8_19, kp8_15, kp8_7, ow8_19, ow8_15, ow8_7, ty3, ty4, ty9, ty22, ty23, ty34, ty36, ty50, ty52, ty53, tb4, g1, g8, fr, ps3 hp, hv, ih', ne_eq]
    · have ih' := ih (pre ++ [(p.1, h, p.2.2)]) (i + 1) cp (by simp [h1]) (by simp; omega)
      rw [List.append_assoc, List.singleton_append] at ih'
      have e : pre ++ [(p.1, h, p.2.2)] ++ ownL h r = pre ++ ownL h (p :: r) := by unfold ownL; rw [List.map_cons, if_neg hv]; simp
      rw [e] at ih'
      have sp := sp_how pre r p h i h1
      simp only [cast1, List.length_append, List.length_cons, List.length_nil, Nat.zero_add, Nat.add_zero, Int.natCast_zero, Int.natCast_add, Int.zero_add, ints_1, ints_0, ] at ih'
      simp (config := { maxSteps := 1000000 }) (disch := omega) only [push_cast, ↓reduceIte, Nat.reduceEqDiff, Nat.reduceAdd, Nat.reduceLT, Nat.reduceLeDiff, Nat.reduceBEq, Nat.reduceMul, Nat.reduceSub, Int.reduceToNat, Int.reduceEq, Int.reduceLT, Int.reduceLE, Int.reduceNeg, Int.reduceAdd, Int.reduceSub, Int.reduceMul, Try.f8, kr8, kp8_19, kp8_15, kp8_7, ow8_19, ow8_15, ow8_7, ty3, ty4, ty9, ty22, ty23, ty34, ty36, ty50, ty52, ty53, tb4, g1, g8, fr, ps3 hp, hv, hw, hw3, hw4, hw5, fl, f5, sp, ih', ne_eq]
variable (hm : m.length ≤ 20000) (hb : ∀ p ∈ l, bdP p) (hal : aliasG l 0 = none) (hX : ∀ x ∈ X, okDeed l x) (hl8 : l.length ≤ 8) (hX6 : X.length ≤ 60)
include hm hb hal hX hl8 hX6
def Fine (r : Option (Ex × St)) : Prop := r = some (.exit 2, ⟨[], [], 0⟩) ∨ r = some (.ret, ⟨[(6, B true)], [], 0⟩)
theorem rnd3 : lp E0 pr1 8 15 ⟨[(0, SL true none m.length (ints m)), (1, PsT true none l), (2, ChT true none X), (12, .sl 0 0 (doS m (val0 l) (l.map plP) X m).length 1 none), (13, .sl 1 0 3 1 (some 3)), (14, I 3)], [(0, .arr (ints (doS m (val0 l) (l.map plP) X m)) 0 1), (1, .arr HW 1 1)], 2⟩ = some (.exit 2, ⟨[], [], 0⟩) := by
  rw [lp_eq lp8_15]
  simp (config := { maxSteps := 1000000 }) (disch := omega) only [push_cast, ↓reduceIte, Nat.reduceEqDiff, Nat.reduceAdd, Nat.reduceLT, Nat.reduceLeDiff, Nat.reduceBEq, Nat.reduceMul, Nat.reduceSub, Int.reduceToNat, Int.reduceEq, Int.reduceLT, Int.reduceLE, Int.reduceNeg, Int.reduceAdd, Int.reduceSub, Int.reduceMul, Try.f8, kr8, kp8_19, kp8_15, kp8_7, ow8_19, ow8_15, ow8_7, ty3, ty4, ty9, ty22, ty23, ty34, ty36, ty50, ty52, ty53, tb4]
theorem rnd2 : Fine (lp E0 pr1 8 15 ⟨[(0, SL true none m.length (ints m)), (1, PsT true none l), (2, ChT true none X), (12, .sl 0 0 (doS m (val0 l) (l.map plP) X m).length 1 none), (13, .sl 1 0 3 1 (some 3)), (14, I 2)], [(0, .arr (ints (doS m (val0 l) (l.map plP) X m)) 0 1), (1, .arr HW 1 1)], 2⟩) := by
  have hh : (ByteArray.mk #[97, 117, 116, 111]) ≠ (ByteArray.mk #[118, 97, 108, 117, 101]) := by decide
  have hbo := own_bd (h := (ByteArray.mk #[97, 117, 116, 111])) hb
  have h19 := ll_Ways19b m l X (doS m (val0 l) (l.map plP) X m) 2 (ByteArray.mk #[97, 117, 116, 111]) rfl (by decide) hl8 l [] 0 none rfl (by simp)
  have he1 := fun b c => old1 (by decide) (c_Enter false true c none m (ownL (ByteArray.mk #[97, 117, 116, 111]) l) (by omega) hbo)
  have flr : rowAt ((ownL (ByteArray.mk #[97, 117, 116, 111]) l).flatMap passC) 0 (l.length * 5) = (ownL (ByteArray.mk #[97, 117, 116, 111]) l).flatMap passC := rowAt_all _ _ (by rw [flat_len passC_len, own_len])
  have fld : rowAt ((entR m (ownL (ByteArray.mk #[97, 117, 116, 111]) l)).2.flatMap dscC) 0 ((entR m (ownL (ByteArray.mk #[97, 117, 116, 111]) l)).2.length * 3) = (entR m (ownL (ByteArray.mk #[97, 117, 116, 111]) l)).2.flatMap dscC := rowAt_all _ _ (by rw [flat_len dscC_len])
  have fll : (l.flatMap passC).length = l.length * 5 := flat_len passC_len l
  rw [List.nil_append, List.nil_append] at h19
  simp only [PsT, own_len] at he1
  try simp only [natc_1, natc_2] at h19
  simp only [cast1, List.length_append, List.length_cons, List.length_nil, Nat.zero_add, Nat.add_zero, Int.natCast_zero, Int.natCast_add, Int.zero_add, ints_1, ints_0, ] at h19
  by_cases he : errEnt m (ownL (ByteArray.mk #[97, 117, 116, 111]) l) = 0
  · obtain ⟨g, _, _, z2, _, z4, z5⟩ := good_of hh hbo hal he
    obtain ⟨e1, e2, e3, e4, e5⟩ := ent_ok m (ownL (ByteArray.mk #[97, 117, 116, 111]) l) hbo he
    have hr := roomN_eq (ownL (ByteArray.mk #[97, 117, 116, 111]) l)
    have hd1 := fun q1 q2 b c1 c2 cm => old1 (by decide) (c_Do q1 q2 b c1 c2 cm (entR m (ownL (ByteArray.mk #[97, 117, 116, 111]) l)).1 (entR m (ownL (ByteArray.mk #[97, 117, 116, 111]) l)).2 X (by omega) (by rw [z5, own_len]; exact hl8) z4 (by omega))
    rw [he] at he1
    by_cases hk : ∀ x ∈ X, okC ((entR m (ownL (ByteArray.mk #[97, 117, 116, 111]) l)).2.map dplc) x
    · obtain ⟨f1, f2⟩ := ways_fin hh hbo hal he X hX hk
      rw [show errDo ((entR m (ownL (ByteArray.mk #[97, 117, 116, 111]) l)).2.map dplc) X = 0 from if_pos hk, show doR ((entR m (ownL (ByteArray.mk #[97, 117, 116, 111]) l)).2.map dplc) X (entR m (ownL (ByteArray.mk #[97, 117, 116, 111]) l)).1 = doQ ((entR m (ownL (ByteArray.mk #[97, 117, 116, 111]) l)).2.map dplc) X (entR m (ownL (ByteArray.mk #[97, 117, 116, 111]) l)).1 from if_pos hk] at hd1
      have hBl := doQ_len ((entR m (ownL (ByteArray.mk #[97, 117, 116, 111]) l)).2.map dplc) X (entR m (ownL (ByteArray.mk #[97, 117, 116, 111]) l)).1
      have hlv := fun q b c cm => old1 (by decide) (c_Leave q b c cm (doQ ((entR m (ownL (ByteArray.mk #[97, 117, 116, 111]) l)).2.map dplc) X (entR m (ownL (ByteArray.mk #[97, 117, 116, 111]) l)).1) (ownL (ByteArray.mk #[97, 117, 116, 111]) l) (m.length : Int) (by omega) hbo)
      rw [f1, f2] at hlv
      simp only [PsT, own_len] at hlv
      have hWl : (doS m (val0 l) (l.map plP) X m).length = m.length := doS_len _ _ _ _ _
      have hsi := fun b1 b2 c1 c2 => old1 (by decide) (r_SameInts b1 b2 c1 c2 (doS m (val0 l) (l.map plP) X m) (doS m (val0 l) (l.map plP) X m) (by omega))
      rw [decide_eq_true rfl] at hsi
      have hnext := rnd3 m l X hm hb hal hX hl8 hX6
      clear f1 f2 hk g z2 z4 z5 e1 e4 e5 hr
      generalize doQ ((entR m (ownL (ByteArray.mk #[97, 117, 116, 111]) l)).2.map dplc) X (entR m (ownL (ByteArray.mk #[97, 117, 116, 111]) l)).1 = Bm at *
      generalize (entR m (ownL (ByteArray.mk #[97, 117, 116, 111]) l)).1 = Am at *
      generalize (entR m (ownL (ByteArray.mk #[97, 117, 116, 111]) l)).2 = Dm at *
      generalize doS m (val0 l) (l.map plP) X m = Wm at *
      try simp only [cast1, List.length_append, List.length_cons, List.length_nil, Nat.zero_add, Nat.add_zero, Int.natCast_zero, Int.natCast_add, Int.zero_add, ints_1, ints_0, ] at hnext
      rcases (Or.inl hnext : Fine _) with hnext | hnext
      · refine .inl ?_
        rw [lp_eq lp8_15]
        simp (config := { maxSteps := 1000000 }) (disch := omega) only [push_cast, ↓reduceIte, Nat.reduceEqDiff, Nat.reduceAdd, Nat.reduceLT, Nat.reduceLeDiff, Nat.reduceBEq, Nat.reduceMul, Nat.reduceSub, Int.reduceToNat, Int.reduceEq, Int.reduceLT, Int.reduceLE, Int.reduceNeg, Int.reduceAdd, Int.reduceSub, Int.reduceMul, Try.f8, kr8, kp8_19, kp8_15, kp8_7, ow8_19, ow8_15, ow8_7, ty3, ty4, ty9, ty22, ty23, ty34, ty36, ty50, ty52, ty53, tb4, h19, he1, hd1, hlv, hsi, hnext, flr, fll, fld, ne_eq]
      · refine .inr ?_
        rw [lp_eq lp8_15]
        simp (config := { maxSteps := 1000000 }) (disch := omega) only [push_cast, ↓reduceIte, Nat.reduceEqDiff, Nat.reduceAdd, Nat.reduceLT, Nat.reduceLeDiff, Nat.reduceBEq, Nat.reduceMul, Nat.reduceSub, Int.reduceToNat, Int.reduceEq, Int.reduceLT, Int.reduceLE, Int.reduceNeg, Int.reduceAdd, Int.reduceSub, Int.reduceMul, Try.f8, kr8, kp8_19, kp8_15, kp8_7, ow8_19, ow8_15, ow8_7, ty3, ty4, ty9, ty22, ty23, ty34, ty36, ty50, ty52, ty53, tb4, h19, he1, hd1, hlv, hsi, hnext, flr, fll, fld, ne_eq]
    · rw [show errDo ((entR m (ownL (ByteArray.mk #[97, 117, 116, 111]) l)).2.map dplc) X = 2 from if_neg hk] at hd1
      refine .inr ?_
      rw [lp_eq lp8_15]
      simp (config := { maxSteps := 1000000 }) (disch := omega) only [push_cast, ↓reduceIte, Nat.reduceEqDiff, Nat.reduceAdd, Nat.reduceLT, Nat.reduceLeDiff, Nat.reduceBEq, Nat.reduceMul, Nat.reduceSub, Int.reduceToNat, Int.reduceEq, Int.reduceLT, Int.reduceLE, Int.reduceNeg, Int.reduceAdd, Int.reduceSub, Int.reduceMul, Try.f8, kr8, kp8_19, kp8_15, kp8_7, ow8_19, ow8_15, ow8_7, ty3, ty4, ty9, ty22, ty23, ty34, ty36, ty50, ty52, ty53, tb4, h19, he1, hd1, flr, fll, fld, awake1, ne_eq]
  · refine .inr ?_
    rw [lp_eq lp8_15]
    simp (config := { maxSteps := 1000000 }) (disch := omega) only [push_cast, ↓reduceIte, Nat.reduceEqDiff, Nat.reduceAdd, Nat.reduceLT, Nat.reduceLeDiff, Nat.reduceBEq, Nat.reduceMul, Nat.reduceSub, Int.reduceToNat, Int.reduceEq, Int.reduceLT, Int.reduceLE, Int.reduceNeg, Int.reduceAdd, Int.reduceSub, Int.reduceMul, Try.f8, kr8, kp8_19, kp8_15, kp8_7, ow8_19, ow8_15, ow8_7, ty3, ty4, ty9, ty22, ty23, ty34, ty36, ty50, ty52, ty53, tb4, h19, he1, he, flr, fll, fld, awake1, ne_eq]
theorem rnd1 : Fine (lp E0 pr1 8 15 ⟨[(0, SL true none m.length (ints m)), (1, PsT true none l), (2, ChT true none X), (12, .sl 0 0 (doS m (val0 l) (l.map plP) X m).length 1 none), (13, .sl 1 0 3 1 (some 3)), (14, I 1)], [(0, .arr (ints (doS m (val0 l) (l.map plP) X m)) 0 1), (1, .arr HW 1 1)], 2⟩) := by
  have hh : (ByteArray.mk #[99, 111, 112, 121]) ≠ (ByteArray.mk #[118, 97, 108, 117, 101]) := by decide
  have hbo := own_bd (h := (ByteArray.mk #[99, 111, 112, 121])) hb
  have h19 := ll_Ways19b m l X (doS m (val0 l) (l.map plP) X m) 1 (ByteArray.mk #[99, 111, 112, 121]) rfl (by decide) hl8 l [] 0 none rfl (by simp)
  have he1 := fun b c => old1 (by decide) (c_Enter false true c none m (ownL (ByteArray.mk #[99, 111, 112, 121]) l) (by omega) hbo)
  have flr : rowAt ((ownL (ByteArray.mk #[99, 111, 112, 121]) l).flatMap passC) 0 (l.length * 5) = (ownL (ByteArray.mk #[99, 111, 112, 121]) l).flatMap passC := rowAt_all _ _ (by rw [flat_len passC_len, own_len])
  have fld : rowAt ((entR m (ownL (ByteArray.mk #[99, 111, 112, 121]) l)).2.flatMap dscC) 0 ((entR m (ownL (ByteArray.mk #[99, 111, 112, 121]) l)).2.length * 3) = (entR m (ownL (ByteArray.mk #[99, 111, 112, 121]) l)).2.flatMap dscC := rowAt_all _ _ (by rw [flat_len dscC_len])
  have fll : (l.flatMap passC).length = l.length * 5 := flat_len passC_len l
  rw [List.nil_append, List.nil_append] at h19
  simp only [PsT, own_len] at he1
  try simp only [natc_1, natc_2] at h19
  simp only [cast1, List.length_append, List.length_cons, List.length_nil, Nat.zero_add, Nat.add_zero, Int.natCast_zero, Int.natCast_add, Int.zero_add, ints_1, ints_0, ] at h19
  by_cases he : errEnt m (ownL (ByteArray.mk #[99, 111, 112, 121]) l) = 0
  · obtain ⟨g, _, _, z2, _, z4, z5⟩ := good_of hh hbo hal he
    obtain ⟨e1, e2, e3, e4, e5⟩ := ent_ok m (ownL (ByteArray.mk #[99, 111, 112, 121]) l) hbo he
    have hr := roomN_eq (ownL (ByteArray.mk #[99, 111, 112, 121]) l)
    have hd1 := fun q1 q2 b c1 c2 cm => old1 (by decide) (c_Do q1 q2 b c1 c2 cm (entR m (ownL (ByteArray.mk #[99, 111, 112, 121]) l)).1 (entR m (ownL (ByteArray.mk #[99, 111, 112, 121]) l)).2 X (by omega) (by rw [z5, own_len]; exact hl8) z4 (by omega))
    rw [he] at he1
    by_cases hk : ∀ x ∈ X, okC ((entR m (ownL (ByteArray.mk #[99, 111, 112, 121]) l)).2.map dplc) x
    · obtain ⟨f1, f2⟩ := ways_fin hh hbo hal he X hX hk
      rw [show errDo ((entR m (ownL (ByteArray.mk #[99, 111, 112, 121]) l)).2.map dplc) X = 0 from if_pos hk, show doR ((entR m (ownL (ByteArray.mk #[99, 111, 112, 121]) l)).2.map dplc) X (entR m (ownL (ByteArray.mk #[99, 111, 112, 121]) l)).1 = doQ ((entR m (ownL (ByteArray.mk #[99, 111, 112, 121]) l)).2.map dplc) X (entR m (ownL (ByteArray.mk #[99, 111, 112, 121]) l)).1 from if_pos hk] at hd1
      have hBl := doQ_len ((entR m (ownL (ByteArray.mk #[99, 111, 112, 121]) l)).2.map dplc) X (entR m (ownL (ByteArray.mk #[99, 111, 112, 121]) l)).1
      have hlv := fun q b c cm => old1 (by decide) (c_Leave q b c cm (doQ ((entR m (ownL (ByteArray.mk #[99, 111, 112, 121]) l)).2.map dplc) X (entR m (ownL (ByteArray.mk #[99, 111, 112, 121]) l)).1) (ownL (ByteArray.mk #[99, 111, 112, 121]) l) (m.length : Int) (by omega) hbo)
      rw [f1, f2] at hlv
      simp only [PsT, own_len] at hlv
      have hWl : (doS m (val0 l) (l.map plP) X m).length = m.length := doS_len _ _ _ _ _
      have hsi := fun b1 b2 c1 c2 => old1 (by decide) (r_SameInts b1 b2 c1 c2 (doS m (val0 l) (l.map plP) X m) (doS m (val0 l) (l.map plP) X m) (by omega))
      rw [decide_eq_true rfl] at hsi
      have hnext := rnd2 m l X hm hb hal hX hl8 hX6
      clear f1 f2 hk g z2 z4 z5 e1 e4 e5 hr
      generalize doQ ((entR m (ownL (ByteArray.mk #[99, 111, 112, 121]) l)).2.map dplc) X (entR m (ownL (ByteArray.mk #[99, 111, 112, 121]) l)).1 = Bm at *
      generalize (entR m (ownL (ByteArray.mk #[99, 111, 112, 121]) l)).1 = Am at *
      generalize (entR m (ownL (ByteArray.mk #[99, 111, 112, 121]) l)).2 = Dm at *
      generalize doS m (val0 l) (l.map plP) X m = Wm at *
      try simp only [cast1, List.length_append, List.length_cons, List.length_nil, Nat.zero_add, Nat.add_zero, Int.natCast_zero, Int.natCast_add, Int.zero_add, ints_1, ints_0, ] at hnext
      rcases hnext with hnext | hnext
      · refine .inl ?_
        rw [lp_eq lp8_15]
        simp (config := { maxSteps := 1000000 }) (disch := omega) only [push_cast, ↓reduceIte, Nat.reduceEqDiff, Nat.reduceAdd, Nat.reduceLT, Nat.reduceLeDiff, Nat.reduceBEq, Nat.reduceMul, Nat.reduceSub, Int.reduceToNat, Int.reduceEq, Int.reduceLT, Int.reduceLE, Int.reduceNeg, Int.reduceAdd, Int.reduceSub, Int.reduceMul, Try.f8, kr8, kp8_19, kp8_15, kp8_7, ow8_19, ow8_15, ow8_7, ty3, ty4, ty9, ty22, ty23, ty34, ty36, ty50, ty52, ty53, tb4, h19, he1, hd1, hlv, hsi, hnext, flr, fll, fld, ne_eq]
      · refine .inr ?_
        rw [lp_eq lp8_15]
        simp (config := { maxSteps := 1000000 }) (disch := omega) only [push_cast, ↓reduceIte, Nat.reduceEqDiff, Nat.reduceAdd, Nat.reduceLT, Nat.reduceLeDiff, Nat.reduceBEq, Nat.reduceMul, Nat.reduceSub, Int.reduceToNat, Int.reduceEq, Int.reduceLT, Int.reduceLE, Int.reduceNeg, Int.reduceAdd, Int.reduceSub, Int.reduceMul, Try.f8, kr8, kp8_19, kp8_15, kp8_7, ow8_19, ow8_15, ow8_7, ty3, ty4, ty9, ty22, ty23, ty34, ty36, ty50, ty52, ty53, tb4, h19, he1, hd1, hlv, hsi, hnext, flr, fll, fld, ne_eq]
    · rw [show errDo ((entR m (ownL (ByteArray.mk #[99, 111, 112, 121]) l)).2.map dplc) X = 2 from if_neg hk] at hd1
      refine .inr ?_
      rw [lp_eq lp8_15]
      simp (config := { maxSteps := 1000000 }) (disch := omega) only [push_cast, ↓reduceIte, Nat.reduceEqDiff, Nat.reduceAdd, Nat.reduceLT, Nat.reduceLeDiff, Nat.reduceBEq, Nat.reduceMul, Nat.reduceSub, Int.reduceToNat, Int.reduceEq, Int.reduceLT, Int.reduceLE, Int.reduceNeg, Int.reduceAdd, Int.reduceSub, Int.reduceMul, Try.f8, kr8, kp8_19, kp8_15, kp8_7, ow8_19, ow8_15, ow8_7, ty3, ty4, ty9, ty22, ty23, ty34, ty36, ty50, ty52, ty53, tb4, h19, he1, hd1, flr, fll, fld, awake1, ne_eq]
  · refine .inr ?_
    rw [lp_eq lp8_15]
    simp (config := { maxSteps := 1000000 }) (disch := omega) only [push_cast, ↓reduceIte, Nat.reduceEqDiff, Nat.reduceAdd, Nat.reduceLT, Nat.reduceLeDiff, Nat.reduceBEq, Nat.reduceMul, Nat.reduceSub, Int.reduceToNat, Int.reduceEq, Int.reduceLT, Int.reduceLE, Int.reduceNeg, Int.reduceAdd, Int.reduceSub, Int.reduceMul, Try.f8, kr8, kp8_19, kp8_15, kp8_7, ow8_19, ow8_15, ow8_7, ty3, ty4, ty9, ty22, ty23, ty34, ty36, ty50, ty52, ty53, tb4, h19, he1, he, flr, fll, fld, awake1, ne_eq]
theorem rnd0 : Fine (lp E0 pr1 8 15 ⟨[(0, SL true none m.length (ints m)), (1, PsT true none l), (2, ChT true none X), (12, nilC), (13, .sl 0 0 3 1 (some 3)), (14, I 0)], [(0, .arr HW 0 1)], 1⟩) := by
  have hh : (ByteArray.mk #[115, 104, 97, 114, 101]) ≠ (ByteArray.mk #[118, 97, 108, 117, 101]) := by decide
  have hbo := own_bd (h := (ByteArray.mk #[115, 104, 97, 114, 101])) hb
  have h19 := ll_Ways19a m l X 0 (ByteArray.mk #[115, 104, 97, 114, 101]) rfl (by decide) hl8 l [] 0 none rfl (by simp)
  have he1 := fun b c => old1 (by decide) (c_Enter false true c none m (ownL (ByteArray.mk #[115, 104, 97, 114, 101]) l) (by omega) hbo)
  have flr : rowAt ((ownL (ByteArray.mk #[115, 104, 97, 114, 101]) l).flatMap passC) 0 (l.length * 5) = (ownL (ByteArray.mk #[115, 104, 97, 114, 101]) l).flatMap passC := rowAt_all _ _ (by rw [flat_len passC_len, own_len])
  have fld : rowAt ((entR m (ownL (ByteArray.mk #[115, 104, 97, 114, 101]) l)).2.flatMap dscC) 0 ((entR m (ownL (ByteArray.mk #[115, 104, 97, 114, 101]) l)).2.length * 3) = (entR m (ownL (ByteArray.mk #[115, 104, 97, 114, 101]) l)).2.flatMap dscC := rowAt_all _ _ (by rw [flat_len dscC_len])
  have fll : (l.flatMap passC).length = l.length * 5 := flat_len passC_len l
  rw [List.nil_append, List.nil_append] at h19
  simp only [PsT, own_len] at he1
  try simp only [natc_1, natc_2] at h19
  simp only [cast1, List.length_append, List.length_cons, List.length_nil, Nat.zero_add, Nat.add_zero, Int.natCast_zero, Int.natCast_add, Int.zero_add, ints_1, ints_0, ] at h19
  by_cases he : errEnt m (ownL (ByteArray.mk #[115, 104, 97, 114, 101]) l) = 0
  · obtain ⟨g, _, _, z2, _, z4, z5⟩ := good_of hh hbo hal he
    obtain ⟨e1, e2, e3, e4, e5⟩ := ent_ok m (ownL (ByteArray.mk #[115, 104, 97, 114, 101]) l) hbo he
    have hr := roomN_eq (ownL (ByteArray.mk #[115, 104, 97, 114, 101]) l)
    have hd1 := fun q1 q2 b c1 c2 cm => old1 (by decide) (c_Do q1 q2 b c1 c2 cm (entR m (ownL (ByteArray.mk #[115, 104, 97, 114, 101]) l)).1 (entR m (ownL (ByteArray.mk #[115, 104, 97, 114, 101]) l)).2 X (by omega) (by rw [z5, own_len]; exact hl8) z4 (by omega))
    rw [he] at he1
    by_cases hk : ∀ x ∈ X, okC ((entR m (ownL (ByteArray.mk #[115, 104, 97, 114, 101]) l)).2.map dplc) x
    · obtain ⟨f1, f2⟩ := ways_fin hh hbo hal he X hX hk
      rw [show errDo ((entR m (ownL (ByteArray.mk #[115, 104, 97, 114, 101]) l)).2.map dplc) X = 0 from if_pos hk, show doR ((entR m (ownL (ByteArray.mk #[115, 104, 97, 114, 101]) l)).2.map dplc) X (entR m (ownL (ByteArray.mk #[115, 104, 97, 114, 101]) l)).1 = doQ ((entR m (ownL (ByteArray.mk #[115, 104, 97, 114, 101]) l)).2.map dplc) X (entR m (ownL (ByteArray.mk #[115, 104, 97, 114, 101]) l)).1 from if_pos hk] at hd1
      have hBl := doQ_len ((entR m (ownL (ByteArray.mk #[115, 104, 97, 114, 101]) l)).2.map dplc) X (entR m (ownL (ByteArray.mk #[115, 104, 97, 114, 101]) l)).1
      have hlv := fun q b c cm => old1 (by decide) (c_Leave q b c cm (doQ ((entR m (ownL (ByteArray.mk #[115, 104, 97, 114, 101]) l)).2.map dplc) X (entR m (ownL (ByteArray.mk #[115, 104, 97, 114, 101]) l)).1) (ownL (ByteArray.mk #[115, 104, 97, 114, 101]) l) (m.length : Int) (by omega) hbo)
      rw [f1, f2] at hlv
      simp only [PsT, own_len] at hlv
      have hWl : (doS m (val0 l) (l.map plP) X m).length = m.length := doS_len _ _ _ _ _
      have hsi := fun b1 b2 c1 c2 => old1 (by decide) (r_SameInts b1 b2 c1 c2 (doS m (val0 l) (l.map plP) X m) (doS m (val0 l) (l.map plP) X m) (by omega))
      rw [decide_eq_true rfl] at hsi
      have hnext := rnd1 m l X hm hb hal hX hl8 hX6
      clear f1 f2 hk g z2 z4 z5 e1 e4 e5 hr
      generalize doQ ((entR m (ownL (ByteArray.mk #[115, 104, 97, 114, 101]) l)).2.map dplc) X (entR m (ownL (ByteArray.mk #[115, 104, 97, 114, 101]) l)).1 = Bm at *
      generalize (entR m (ownL (ByteArray.mk #[115, 104, 97, 114, 101]) l)).1 = Am at *
      generalize (entR m (ownL (ByteArray.mk #[115, 104, 97, 114, 101]) l)).2 = Dm at *
      generalize doS m (val0 l) (l.map plP) X m = Wm at *
      try simp only [cast1, List.length_append, List.length_cons, List.length_nil, Nat.zero_add, Nat.add_zero, Int.natCast_zero, Int.natCast_add, Int.zero_add, ints_1, ints_0, ] at hnext
      rcases hnext with hnext | hnext
      · refine .inl ?_
        rw [lp_eq lp8_15]
        simp (config := { maxSteps := 1000000 }) (disch := omega) only [push_cast, ↓reduceIte, Nat.reduceEqDiff, Nat.reduceAdd, Nat.reduceLT, Nat.reduceLeDiff, Nat.reduceBEq, Nat.reduceMul, Nat.reduceSub, Int.reduceToNat, Int.reduceEq, Int.reduceLT, Int.reduceLE, Int.reduceNeg, Int.reduceAdd, Int.reduceSub, Int.reduceMul, Try.f8, kr8, kp8_19, kp8_15, kp8_7, ow8_19, ow8_15, ow8_7, ty3, ty4, ty9, ty22, ty23, ty34, ty36, ty50, ty52, ty53, tb4, h19, he1, hd1, hlv, hsi, hnext, flr, fll, fld, ne_eq]
      · refine .inr ?_
        rw [lp_eq lp8_15]
        simp (config := { maxSteps := 1000000 }) (disch := omega) only [push_cast, ↓reduceIte, Nat.reduceEqDiff, Nat.reduceAdd, Nat.reduceLT, Nat.reduceLeDiff, Nat.reduceBEq, Nat.reduceMul, Nat.reduceSub, Int.reduceToNat, Int.reduceEq, Int.reduceLT, Int.reduceLE, Int.reduceNeg, Int.reduceAdd, Int.reduceSub, Int.reduceMul, Try.f8, kr8, kp8_19, kp8_15, kp8_7, ow8_19, ow8_15, ow8_7, ty3, ty4, ty9, ty22, ty23, ty34, ty36, ty50, ty52, ty53, tb4, h19, he1, hd1, hlv, hsi, hnext, flr, fll, fld, ne_eq]
    · rw [show errDo ((entR m (ownL (ByteArray.mk #[115, 104, 97, 114, 101]) l)).2.map dplc) X = 2 from if_neg hk] at hd1
      refine .inr ?_
      rw [lp_eq lp8_15]
      simp (config := { maxSteps := 1000000 }) (disch := omega) only [push_cast, ↓reduceIte, Nat.reduceEqDiff, Nat.reduceAdd, Nat.reduceLT, Nat.reduceLeDiff, Nat.reduceBEq, Nat.reduceMul, Nat.reduceSub, Int.reduceToNat, Int.reduceEq, Int.reduceLT, Int.reduceLE, Int.reduceNeg, Int.reduceAdd, Int.reduceSub, Int.reduceMul, Try.f8, kr8, kp8_19, kp8_15, kp8_7, ow8_19, ow8_15, ow8_7, ty3, ty4, ty9, ty22, ty23, ty34, ty36, ty50, ty52, ty53, tb4, h19, he1, hd1, flr, fll, fld, awake1, ne_eq]
  · refine .inr ?_
    rw [lp_eq lp8_15]
    simp (config := { maxSteps := 1000000 }) (disch := omega) only [push_cast, ↓reduceIte, Nat.reduceEqDiff, Nat.reduceAdd, Nat.reduceLT, Nat.reduceLeDiff, Nat.reduceBEq, Nat.reduceMul, Nat.reduceSub, Int.reduceToNat, Int.reduceEq, Int.reduceLT, Int.reduceLE, Int.reduceNeg, Int.reduceAdd, Int.reduceSub, Int.reduceMul, Try.f8, kr8, kp8_19, kp8_15, kp8_7, ow8_19, ow8_15, ow8_7, ty3, ty4, ty9, ty22, ty23, ty34, ty36, ty50, ty52, ty53, tb4, h19, he1, he, flr, fll, fld, awake1, ne_eq]
end
theorem ArgueWays_true' (m : List Int) (l : List PassQ) (X : List ChgQ) (hm : (m.length : Int) ≤ 9223372036854775806) (hl : (l.length : Int) ≤ 9223372036854775806) (hXl : (X.length : Int) ≤ 9223372036854775806) (hb : ∀ p ∈ l, bdP p) :
    CALL1 8 [SL true none m.length (ints m), PsT true none l, ChT true none X] = some (B true, []) := by
  have hL := old1 (by decide) (c_Large true true none none m l)
  have hA := c_Alias true l hb hl
  refine lim_run (fn := Try.f8) fn8 (pr1_none (by decide) _) body8 (Nat.le_of_ble_eq_true rfl) ok8 ?_
  by_cases k1 : 20000 < (m.length : Int)
  · simp (config := { maxSteps := 1000000 }) (disch := omega) only [push_cast, ↓reduceIte, Nat.reduceEqDiff, Nat.reduceAdd, Nat.reduceLT, Nat.reduceLeDiff, Nat.reduceBEq, Nat.reduceMul, Nat.reduceSub, Int.reduceToNat, Int.reduceEq, Int.reduceLT, Int.reduceLE, Int.reduceNeg, Int.reduceAdd, Int.reduceSub, Int.reduceMul, Try.f8, kr8, kp8_19, kp8_15, kp8_7, ow8_19, ow8_15, ow8_7, ty3, ty4, ty9, ty22, ty23, ty34, ty36, ty50, ty52, ty53, tb4, hL, k1, awake1]
  · by_cases k2 : 20 < (l.length : Int)
    · simp (config := { maxSteps := 1000000 }) (disch := omega) only [push_cast, ↓reduceIte, Nat.reduceEqDiff, Nat.reduceAdd, Nat.reduceLT, Nat.reduceLeDiff, Nat.reduceBEq, Nat.reduceMul, Nat.reduceSub, Int.reduceToNat, Int.reduceEq, Int.reduceLT, Int.reduceLE, Int.reduceNeg, Int.reduceAdd, Int.reduceSub, Int.reduceMul, Try.f8, kr8, kp8_19, kp8_15, kp8_7, ow8_19, ow8_15, ow8_7, ty3, ty4, ty9, ty22, ty23, ty34, ty36, ty50, ty52, ty53, tb4, hL, k1, k2, awake1]
    · by_cases k3 : 60 < (X.length : Int)
      · simp (config := { maxSteps := 1000000 }) (disch := omega) only [push_cast, ↓reduceIte, Nat.reduceEqDiff, Nat.reduceAdd, Nat.reduceLT, Nat.reduceLeDiff, Nat.reduceBEq, Nat.reduceMul, Nat.reduceSub, Int.reduceToNat, Int.reduceEq, Int.reduceLT, Int.reduceLE, Int.reduceNeg, Int.reduceAdd, Int.reduceSub, Int.reduceMul, Try.f8, kr8, kp8_19, kp8_15, kp8_7, ow8_19, ow8_15, ow8_7, ty3, ty4, ty9, ty22, ty23, ty34, ty36, ty50, ty52, ty53, tb4, hL, k1, k2, k3, awake1]
      · by_cases ha : alE l = 0
        · have hok : okAll l := by
            unfold alE at ha
            split at ha
            · assumption
            · omega
          have hal : aliasG l 0 = none := by
            unfold alE at ha
            rw [if_pos hok] at ha
            cases h : aliasG l 0 with
            | none => rfl
            | some x => rw [h] at ha; simp at ha
          have h7 := ll_Ways7 m l X (by have := hok.1; omega) (by omega) X 0 rfl
          rw [ha] at hA
          simp only [cast1, List.length_append, List.length_cons, List.length_nil, Nat.zero_add, Nat.add_zero, Int.natCast_zero, Int.natCast_add, Int.zero_add, ints_1, ints_0, ] at h7
          by_cases hd : X.all (okDB l) = true
          · rw [if_pos hd] at h7
            have h15 := rnd0 m l X (by omega) hb hal (fun x hx => okDB_iff (List.all_eq_true.1 hd x hx)) (by have := hok.1; omega) (by omega)
            try simp only [cast1, List.length_append, List.length_cons, List.length_nil, Nat.zero_add, Nat.add_zero, Int.natCast_zero, Int.natCast_add, Int.zero_add, ints_1, ints_0, ] at h15
            rcases h15 with h15 | h15
            · simp (config := { maxSteps := 1000000 }) (disch := omega) only [push_cast, ↓reduceIte, Nat.reduceEqDiff, Nat.reduceAdd, Nat.reduceLT, Nat.reduceLeDiff, Nat.reduceBEq, Nat.reduceMul, Nat.reduceSub, Int.reduceToNat, Int.reduceEq, Int.reduceLT, Int.reduceLE, Int.reduceNeg, Int.reduceAdd, Int.reduceSub, Int.reduceMul, Try.f8, kr8, kp8_19, kp8_15, kp8_7, ow8_19, ow8_15, ow8_7, ty3, ty4, ty9, ty22, ty23, ty34, ty36, ty50, ty52, ty53, tb4, hL, hA, k1, k2, k3, h7, h15, awake1, ne_eq]
            · simp (config := { maxSteps := 1000000 }) (disch := omega) only [push_cast, ↓reduceIte, Nat.reduceEqDiff, Nat.reduceAdd, Nat.reduceLT, Nat.reduceLeDiff, Nat.reduceBEq, Nat.reduceMul, Nat.reduceSub, Int.reduceToNat, Int.reduceEq, Int.reduceLT, Int.reduceLE, Int.reduceNeg, Int.reduceAdd, Int.reduceSub, Int.reduceMul, Try.f8, kr8, kp8_19, kp8_15, kp8_7, ow8_19, ow8_15, ow8_7, ty3, ty4, ty9, ty22, ty23, ty34, ty36, ty50, ty52, ty53, tb4, hL, hA, k1, k2, k3, h7, h15, awake1, ne_eq]
          · rw [if_neg hd] at h7
            simp (config := { maxSteps := 1000000 }) (disch := omega) only [push_cast, ↓reduceIte, Nat.reduceEqDiff, Nat.reduceAdd, Nat.reduceLT, Nat.reduceLeDiff, Nat.reduceBEq, Nat.reduceMul, Nat.reduceSub, Int.reduceToNat, Int.reduceEq, Int.reduceLT, Int.reduceLE, Int.reduceNeg, Int.reduceAdd, Int.reduceSub, Int.reduceMul, Try.f8, kr8, kp8_19, kp8_15, kp8_7, ow8_19, ow8_15, ow8_7, ty3, ty4, ty9, ty22, ty23, ty34, ty36, ty50, ty52, ty53, tb4, hL, hA, k1, k2, k3, h7, ne_eq]
        · simp (config := { maxSteps := 1000000 }) (disch := omega) only [push_cast, ↓reduceIte, Nat.reduceEqDiff, Nat.reduceAdd, Nat.reduceLT, Nat.reduceLeDiff, Nat.reduceBEq, Nat.reduceMul, Nat.reduceSub, Int.reduceToNat, Int.reduceEq, Int.reduceLT, Int.reduceLE, Int.reduceNeg, Int.reduceAdd, Int.reduceSub, Int.reduceMul, Try.f8, kr8, kp8_19, kp8_15, kp8_7, ow8_19, ow8_15, ow8_7, ty3, ty4, ty9, ty22, ty23, ty34, ty36, ty50, ty52, ty53, tb4, hL, hA, k1, k2, k3, ha, awake1, ne_eq]
def okPass2 (p : PassQ) : Prop := okDscQ p.1 ∧ p.2.1.size ≤ 140737488351232 ∧ True
def okChg2 (x : ChgQ) : Prop := (-9223372036854775808 ≤ x.1 ∧ x.1 ≤ 9223372036854775807) ∧ (-9223372036854775808 ≤ x.2.1 ∧ x.2.1 ≤ 9223372036854775807) ∧ (-9223372036854775808 ≤ x.2.2.1 ∧ x.2.2.1 ≤ 9223372036854775807) ∧ True
theorem ArgueWays_true (m : List Int) (l : List PassQ) (X : List ChgQ) (hm : okIntsQ m) (hl : l.length * 80 ≤ 140737488351232 ∧ ∀ p ∈ l, okPass2 p) (hX : X.length * 32 ≤ 140737488351232 ∧ ∀ x ∈ X, okChg2 x) :
    CALL1 8 [SL true none m.length (ints m), PsT true none l, ChT true none X] = some (B true, []) :=
  ArgueWays_true' m l X (len_bd hm.1) (by have := hl.1; omega) (by have := hX.1; omega) fun p hp => ⟨(hl.2 p hp).1.1.2, len_bd (hl.2 p hp).1.2.1.1, len_bd (hl.2 p hp).1.2.2.1⟩
end Go.Proofs.Ytochkebkfoophaa.Tev
