/- Passes: packed, valid, all; the document's. -/
import Derived.Test.YtochkebkfoophaaC24b
namespace Go.Proofs.Ytochkebkfoophaa.Tev
open Go Go.RowKit Go.Proofs Go.Proofs.Ytochkebkfoophaa.Q
set_option linter.unusedSectionVars false
set_option maxRecDepth 100000
set_option maxHeartbeats 0
set_option linter.unusedSimpArgs false
set_option linter.unusedVariables false
abbrev DscQ := Int × List Int × List Int
abbrev PassQ := DscQ × ByteArray × Bool
def dscC (d : DscQ) : List C := [CI d.1, .s none d.2.1.length (ints d.2.1), .s none d.2.2.length (ints d.2.2)]
def passC (p : PassQ) : List C := [CI p.1.1, .s none p.1.2.1.length (ints p.1.2.1), .s none p.1.2.2.length (ints p.1.2.2), .v (.string p.2.1), .v (.bool p.2.2)]
abbrev PsT (q : Bool) (c : Option Nat) (l : List PassQ) : T := SL q c l.length (l.flatMap passC)
/-- One pass, as it is handed on. -/
abbrev P1 (b1 b2 : Bool) (c1 c2 : Option Nat) (p : PassQ) : T := .agg [I p.1.1, SL b1 c1 p.1.2.1.length (ints p.1.2.1), SL b2 c2 p.1.2.2.length (ints p.1.2.2), .c (.v (.string p.2.1)), B p.2.2]
theorem nSC : ¬ (ByteArray.mk #[115, 104, 97, 114, 101]) = (ByteArray.mk #[99, 111, 112, 121]) := by decide
theorem nSV : ¬ (ByteArray.mk #[115, 104, 97, 114, 101]) = (ByteArray.mk #[118, 97, 108, 117, 101]) := by decide
theorem nSA : ¬ (ByteArray.mk #[115, 104, 97, 114, 101]) = (ByteArray.mk #[97, 117, 116, 111]) := by decide
theorem nCS : ¬ (ByteArray.mk #[99, 111, 112, 121]) = (ByteArray.mk #[115, 104, 97, 114, 101]) := by decide
theorem nCV : ¬ (ByteArray.mk #[99, 111, 112, 121]) = (ByteArray.mk #[118, 97, 108, 117, 101]) := by decide
theorem nCA : ¬ (ByteArray.mk #[99, 111, 112, 121]) = (ByteArray.mk #[97, 117, 116, 111]) := by decide
theorem nVS : ¬ (ByteArray.mk #[118, 97, 108, 117, 101]) = (ByteArray.mk #[115, 104, 97, 114, 101]) := by decide
theorem nVC : ¬ (ByteArray.mk #[118, 97, 108, 117, 101]) = (ByteArray.mk #[99, 111, 112, 121]) := by decide
theorem nVA : ¬ (ByteArray.mk #[118, 97, 108, 117, 101]) = (ByteArray.mk #[97, 117, 116, 111]) := by decide
theorem nAS : ¬ (ByteArray.mk #[97, 117, 116, 111]) = (ByteArray.mk #[115, 104, 97, 114, 101]) := by decide
theorem nAC : ¬ (ByteArray.mk #[97, 117, 116, 111]) = (ByteArray.mk #[99, 111, 112, 121]) := by decide
theorem nAV : ¬ (ByteArray.mk #[97, 117, 116, 111]) = (ByteArray.mk #[118, 97, 108, 117, 101]) := by decide
def okH (h : ByteArray) : Prop := h = (ByteArray.mk #[115, 104, 97, 114, 101]) ∨ h = (ByteArray.mk #[99, 111, 112, 121]) ∨ h = (ByteArray.mk #[118, 97, 108, 117, 101]) ∨ h = (ByteArray.mk #[97, 117, 116, 111])
instance (h : ByteArray) : Decidable (okH h) := by unfold okH; infer_instance
def okPs (p : PassQ) : Prop := okD p.1.1 p.1.2.1 p.1.2.2 ∧ okH p.2.1
instance (p : PassQ) : Decidable (okPs p) := by unfold okPs; infer_instance
/-- The bounds that any pass that comes in keeps. -/
def bdP (p : PassQ) : Prop := p.1.1 ≤ 9223372036854775807 ∧ (p.1.2.1.length : Int) ≤ 9223372036854775806 ∧ (p.1.2.2.length : Int) ≤ 9223372036854775806
def packedQ (p : PassQ) : Bool := if p.2.1 = (ByteArray.mk #[97, 117, 116, 111]) then !contQ p.1.1 p.1.2.1 p.1.2.2 else decide (p.2.1 ≠ (ByteArray.mk #[115, 104, 97, 114, 101]))
theorem passC_len (p : PassQ) : (passC p).length = 5 := rfl
theorem dscC_len (p : DscQ) : (dscC p).length = 3 := rfl
section
variable {l : List PassQ} {i : Nat} {p : PassQ} (h : l[i]? = some p)
theorem ps0 (h : l[i]? = some p) : (l.flatMap passC)[i * 5]? = some (CI p.1.1) := flat_get passC_len h 0 (by decide)
theorem ps1 (h : l[i]? = some p) : (l.flatMap passC)[i * 5 + 1]? = some (.s none p.1.2.1.length (ints p.1.2.1)) := flat_get passC_len h 1 (by decide)
theorem ps2 (h : l[i]? = some p) : (l.flatMap passC)[i * 5 + 2]? = some (.s none p.1.2.2.length (ints p.1.2.2)) := flat_get passC_len h 2 (by decide)
theorem ps3 (h : l[i]? = some p) : (l.flatMap passC)[i * 5 + 3]? = some (.v (.string p.2.1)) := flat_get passC_len h 3 (by decide)
theorem ps4 (h : l[i]? = some p) : (l.flatMap passC)[i * 5 + 4]? = some (.v (.bool p.2.2)) := flat_get passC_len h 4 (by decide)
end
theorem c_packed (b1 b2 : Bool) (c1 c2 : Option Nat) (p : PassQ) (hp : bdP p) : CALL 30 [P1 b1 b2 c1 c2 p] = some (B (packedQ p), []) := by
  have h1 := c_Contiguous p.1.1 b1 b2 c1 c2 p.1.2.1 p.1.2.2 hp.2.1 hp.2.2 hp.1
  unfold packedQ
  refine lim_run (fn := Try.f30) fn30 rfl body30 (Nat.le_of_ble_eq_true rfl) ok30 ?_
  by_cases ha : p.2.1 = (ByteArray.mk #[97, 117, 116, 111])
  · simp (config := { maxSteps := 1000000 }) (disch := omega) only [push_cast, ↓reduceIte, Nat.reduceEqDiff, Nat.reduceAdd, Nat.reduceLT, Nat.reduceLeDiff, Nat.reduceBEq, Nat.reduceMul, Nat.reduceSub, Int.reduceToNat, Int.reduceEq, Int.reduceLT, Int.reduceLE, Int.reduceNeg, Int.reduceAdd, Int.reduceSub, Int.reduceMul, Try.f30, kr30, ty3, ty4, ty9, ty22, ty34, ty36, tb4, h1, ha]
  · simp (config := { maxSteps := 1000000 }) (disch := omega) only [push_cast, ↓reduceIte, Nat.reduceEqDiff, Nat.reduceAdd, Nat.reduceLT, Nat.reduceLeDiff, Nat.reduceBEq, Nat.reduceMul, Nat.reduceSub, Int.reduceToNat, Int.reduceEq, Int.reduceLT, Int.reduceLE, Int.reduceNeg, Int.reduceAdd, Int.reduceSub, Int.reduceMul, Try.f30, kr30, ty3, ty4, ty9, ty22, ty34, ty36, tb4, ha]
theorem c_Contains (s : ByteArray) : CALL 51 [SL false (some 4) 4 [.v (.string (ByteArray.mk #[115, 104, 97, 114, 101])), .v (.string (ByteArray.mk #[99, 111, 112, 121])), .v (.string (ByteArray.mk #[118, 97, 108, 117, 101])), .v (.string (ByteArray.mk #[97, 117, 116, 111]))], .c (.v (.string s))] = some (B (decide (okH s)), []) := by
  have hx : ∃ k : Int, CALL 66 [SL false (some 4) 4 [.v (.string (ByteArray.mk #[115, 104, 97, 114, 101])), .v (.string (ByteArray.mk #[99, 111, 112, 121])), .v (.string (ByteArray.mk #[118, 97, 108, 117, 101])), .v (.string (ByteArray.mk #[97, 117, 116, 111]))], .c (.v (.string s))] = some (I k, []) ∧ decide (0 ≤ k) = decide (okH s) := by
    unfold okH
    by_cases h1 : s = (ByteArray.mk #[115, 104, 97, 114, 101])
    · refine ⟨0, ?_, by simp [h1]⟩
      refine lim_run (fn := Try.f66) fn66 rfl body66 (Nat.le_of_ble_eq_true rfl) ok66 ?_
      simp (config := { maxSteps := 1000000 }) (disch := omega) only [push_cast, ↓reduceIte, Nat.reduceEqDiff, Nat.reduceAdd, Nat.reduceLT, Nat.reduceLeDiff, Nat.reduceBEq, Nat.reduceMul, Nat.reduceSub, Int.reduceToNat, Int.reduceEq, Int.reduceLT, Int.reduceLE, Int.reduceNeg, Int.reduceAdd, Int.reduceSub, Int.reduceMul, Try.f66, kr66, kp66_2, ow66_2, ty3, ty9, ty53, h1, fun S0 => lp_eq (S0 := S0) (pr := pr0) lp66_2]
    · by_cases h2 : s = (ByteArray.mk #[99, 111, 112, 121])
      · refine ⟨1, ?_, by simp [h2]⟩
        refine lim_run (fn := Try.f66) fn66 rfl body66 (Nat.le_of_ble_eq_true rfl) ok66 ?_
        simp (config := { maxSteps := 1000000 }) (disch := omega) only [push_cast, ↓reduceIte, Nat.reduceEqDiff, Nat.reduceAdd, Nat.reduceLT, Nat.reduceLeDiff, Nat.reduceBEq, Nat.reduceMul, Nat.reduceSub, Int.reduceToNat, Int.reduceEq, Int.reduceLT, Int.reduceLE, Int.reduceNeg, Int.reduceAdd, Int.reduceSub, Int.reduceMul, Try.f66, kr66, kp66_2, ow66_2, ty3, ty9, ty53, h1, h2, nCS, fun S0 => lp_eq (S0 := S0) (pr := pr0) lp66_2]
      · by_cases h3 : s = (ByteArray.mk #[118, 97, 108, 117, 101])
        · refine ⟨2, ?_, by simp [h3]⟩
          refine lim_run (fn := Try.f66) fn66 rfl body66 (Nat.le_of_ble_eq_true rfl) ok66 ?_
          simp (config := { maxSteps := 1000000 }) (disch := omega) only [push_cast, ↓reduceIte, Nat.reduceEqDiff, Nat.reduceAdd, Nat.reduceLT, Nat.reduceLeDiff, Nat.reduceBEq, Nat.reduceMul, Nat.reduceSub, Int.reduceToNat, Int.reduceEq, Int.reduceLT, Int.reduceLE, Int.reduceNeg, Int.reduceAdd, Int.reduceSub, Int.reduceMul, Try.f66, kr66, kp66_2, ow66_2, ty3, ty9, ty53, h1, h2, h3, nVS, nVC, fun S0 => lp_eq (S0 := S0) (pr := pr0) lp66_2]
        · by_cases h4 : s = (ByteArray.mk #[97, 117, 116, 111])
          · refine ⟨3, ?_, by simp [h4]⟩
            refine lim_run (fn := Try.f66) fn66 rfl body66 (Nat.le_of_ble_eq_true rfl) ok66 ?_
            simp (config := { maxSteps := 1000000 }) (disch := omega) only [push_cast, ↓reduceIte, Nat.reduceEqDiff, Nat.reduceAdd, Nat.reduceLT, Nat.reduceLeDiff, Nat.reduceBEq, Nat.reduceMul, Nat.reduceSub, Int.reduceToNat, Int.reduceEq, Int.reduceLT, Int.reduceLE, Int.reduceNeg, Int.reduceAdd, Int.reduceSub, Int.reduceMul, Try.f66, kr66, kp66_2, ow66_2, ty3, ty9, ty53, h1, h2, h3, h4, nAS, nAC, nAV, fun S0 => lp_eq (S0 := S0) (pr := pr0) lp66_2]
          · refine ⟨-1, ?_, by simp [h1, h2, h3, h4]⟩
            refine lim_run (fn := Try.f66) fn66 rfl body66 (Nat.le_of_ble_eq_true rfl) ok66 ?_
            simp (config := { maxSteps := 1000000 }) (disch := omega) only [push_cast, ↓reduceIte, Nat.reduceEqDiff, Nat.reduceAdd, Nat.reduceLT, Nat.reduceLeDiff, Nat.reduceBEq, Nat.reduceMul, Nat.reduceSub, Int.reduceToNat, Int.reduceEq, Int.reduceLT, Int.reduceLE, Int.reduceNeg, Int.reduceAdd, Int.reduceSub, Int.reduceMul, Try.f66, kr66, kp66_2, ow66_2, ty3, ty9, ty53, h1, h2, h3, h4, fun S0 => lp_eq (S0 := S0) (pr := pr0) lp66_2]
  obtain ⟨k, h1, h2⟩ := hx
  rw [← h2]
  refine lim_run (fn := Try.f51) fn51 rfl body51 (Nat.le_of_ble_eq_true rfl) ok51 ?_
  simp (config := { maxSteps := 1000000 }) (disch := omega) only [push_cast, ↓reduceIte, Nat.reduceEqDiff, Nat.reduceAdd, Nat.reduceLT, Nat.reduceLeDiff, Nat.reduceBEq, Nat.reduceMul, Nat.reduceSub, Int.reduceToNat, Int.reduceEq, Int.reduceLT, Int.reduceLE, Int.reduceNeg, Int.reduceAdd, Int.reduceSub, Int.reduceMul, Try.f51, kr51, ty4, tb4, h1]
/-- The first error of a memory and passes. -/
def errA (n : Nat) : List PassQ → Int
  | [] => 0
  | p :: r => if errI n p.1.1 p.1.2.1 p.1.2.2 = 0 then errA n r else errI n p.1.1 p.1.2.1 p.1.2.2
def okAll (l : List PassQ) : Prop := (l.length : Int) ≤ 8 ∧ ∀ p ∈ l, okPs p
instance (l : List PassQ) : Decidable (okAll l) := by unfold okAll; infer_instance
theorem l_valid4 (q : Bool) (c : Option Nat) (l : List PassQ) (hl : l.length ≤ 8) (hb : ∀ p ∈ l, bdP p) : ∀ (r : List PassQ) (i : Nat), l.drop i = r →
    lp E0 pr0 28 4 ⟨[(8, PsT q c l), (9, I l.length), (10, I i)], [], 0⟩ =
      if ∀ p ∈ r, okPs p then some (.exit 0, ⟨[], [], 0⟩) else some (.ret, ⟨[(2, I 2)], [], 0⟩) := by
  intro r
  induction r with
  | nil =>
    intro i h1
    have h5 := drop_nil h1
    have h6 : ¬ (i : Int) < l.length := by omega
    rw [lp_eq lp28_4]
    simp (config := { maxSteps := 1000000 }) (disch := omega) only [push_cast, ↓reduceIte, Nat.reduceEqDiff, Nat.reduceAdd, Nat.reduceLT, Nat.reduceLeDiff, Nat.reduceBEq, Nat.reduceMul, Nat.reduceSub, Int.reduceToNat, Int.reduceEq, Int.reduceLT, Int.reduceLE, Int.reduceNeg, Int.reduceAdd, Int.reduceSub, Int.reduceMul, Try.f28, kr28, kp28_4, ow28_4, ty3, ty4, ty9, ty22, ty23, ty27, ty34, ty36, ty53, tb4, h6]
    simp
  | cons p r ih =>
    intro i h1
    obtain ⟨g1, g2, g3⟩ := drop_cons h1
    have g8 : (i : Int) < l.length := by omega
    have ih' := ih (i + 1) g3
    have hp := hb p (List.mem_of_getElem? g2)
    have hv := c_Valid p.1.1 true true none none p.1.2.1 p.1.2.2 hp.2.1 hp.2.2
    simp only [cast1, List.length_append, List.length_cons, List.length_nil, Nat.zero_add, Nat.add_zero, Int.natCast_zero, Int.natCast_add, Int.zero_add, ints_1, ints_0, ] at ih'
    rw [lp_eq lp28_4]
    by_cases hx : okD p.1.1 p.1.2.1 p.1.2.2
    · by_cases hy : okH p.2.1
      · have hz : okPs p := ⟨hx, hy⟩
        simp (config := { maxSteps := 1000000 }) (disch := omega) only [push_cast, ↓reduceIte, Nat.reduceEqDiff, Nat.reduceAdd, Nat.reduceLT, Nat.reduceLeDiff, Nat.reduceBEq, Nat.reduceMul, Nat.reduceSub, Int.reduceToNat, Int.reduceEq, Int.reduceLT, Int.reduceLE, Int.reduceNeg, Int.reduceAdd, Int.reduceSub, Int.reduceMul, Try.f28, kr28, kp28_4, ow28_4, ty3, ty4, ty9, ty22, ty23, ty27, ty34, ty36, ty53, tb4, g1, g8, ps0 g2, ps1 g2, ps2 g2, ps3 g2, ps4 g2, hv, c_Contains, hx, hy, hz, ih', List.forall_mem_cons]
      · have hz : ¬ okPs p := fun h => hy h.2
        simp (config := { maxSteps := 1000000 }) (disch := omega) only [push_cast, ↓reduceIte, Nat.reduceEqDiff, Nat.reduceAdd, Nat.reduceLT, Nat.reduceLeDiff, Nat.reduceBEq, Nat.reduceMul, Nat.reduceSub, Int.reduceToNat, Int.reduceEq, Int.reduceLT, Int.reduceLE, Int.reduceNeg, Int.reduceAdd, Int.reduceSub, Int.reduceMul, Try.f28, kr28, kp28_4, ow28_4, ty3, ty4, ty9, ty22, ty23, ty27, ty34, ty36, ty53, tb4, g1, g8, ps0 g2, ps1 g2, ps2 g2, ps3 g2, ps4 g2, hv, c_Contains, hx, hy, hz, List.forall_mem_cons]
    · have hz : ¬ okPs p := fun h => hx h.1
      simp (config := { maxSteps := 1000000 }) (disch := omega) only [push_cast, ↓reduceIte, Nat.reduceEqDiff, Nat.reduceAdd, Nat.reduceLT, Nat.reduceLeDiff, Nat.reduceBEq, Nat.reduceMul, Nat.reduceSub, Int.reduceToNat, Int.reduceEq, Int.reduceLT, Int.reduceLE, Int.reduceNeg, Int.reduceAdd, Int.reduceSub, Int.reduceMul, Try.f28, kr28, kp28_4, ow28_4, ty3, ty4, ty9, ty22, ty23, ty27, ty34, ty36, ty53, tb4, g1, g8, ps0 g2, ps1 g2, ps2 g2, ps3 g2, ps4 g2, hv, hx, hz, List.forall_mem_cons]
theorem c_valid (q : Bool) (c : Option Nat) (l : List PassQ) (hb : ∀ p ∈ l, bdP p) : CALL 28 [PsT q c l] = some (I (if okAll l then 0 else 2), []) := by
  unfold okAll
  refine lim_run (fn := Try.f28) fn28 rfl body28 (Nat.le_of_ble_eq_true rfl) ok28 ?_
  by_cases h : (l.length : Int) ≤ 8
  · have hl := l_valid4 q c l (by omega) hb l 0 rfl
    simp only [cast1, List.length_append, List.length_cons, List.length_nil, Nat.zero_add, Nat.add_zero, Int.natCast_zero, Int.natCast_add, Int.zero_add, ints_1, ints_0, ] at hl
    have h0 : ¬ 8 < (l.length : Int) := by omega
    simp (config := { maxSteps := 1000000 }) (disch := omega) only [push_cast, ↓reduceIte, Nat.reduceEqDiff, Nat.reduceAdd, Nat.reduceLT, Nat.reduceLeDiff, Nat.reduceBEq, Nat.reduceMul, Nat.reduceSub, Int.reduceToNat, Int.reduceEq, Int.reduceLT, Int.reduceLE, Int.reduceNeg, Int.reduceAdd, Int.reduceSub, Int.reduceMul, Try.f28, kr28, kp28_4, ow28_4, ty3, ty4, ty9, ty22, ty23, ty27, ty34, ty36, ty53, tb4, h0, h, hl]
    by_cases hz : ∀ p ∈ l, okPs p
    · rw [if_pos hz, if_pos hz]
    · rw [if_neg hz, if_neg hz]
  · have h0 : 8 < (l.length : Int) := by omega
    simp (config := { maxSteps := 1000000 }) (disch := omega) only [push_cast, ↓reduceIte, Nat.reduceEqDiff, Nat.reduceAdd, Nat.reduceLT, Nat.reduceLeDiff, Nat.reduceBEq, Nat.reduceMul, Nat.reduceSub, Int.reduceToNat, Int.reduceEq, Int.reduceLT, Int.reduceLE, Int.reduceNeg, Int.reduceAdd, Int.reduceSub, Int.reduceMul, Try.f28, kr28, kp28_4, ow28_4, ty3, ty4, ty9, ty22, ty23, ty27, ty34, ty36, ty53, tb4, h0, h]
theorem l_all5 (q b : Bool) (c cm : Option Nat) (m : List Int) (l : List PassQ) (hm : (m.length : Int) ≤ 9223372036854775806) (hl : l.length ≤ 8) (hb : ∀ p ∈ l, bdP p) : ∀ (r : List PassQ) (i : Nat), l.drop i = r →
    lp E0 pr0 31 5 ⟨[(0, SL b cm m.length (ints m)), (15, PsT q c l), (16, I l.length), (17, I i)], [], 0⟩ =
      if errA m.length r = 0 then some (.exit 0, ⟨[], [], 0⟩) else some (.ret, ⟨[(4, I (errA m.length r))], [], 0⟩) := by
  intro r
  induction r with
  | nil =>
    intro i h1
    have h5 := drop_nil h1
    have h6 : ¬ (i : Int) < l.length := by omega
    rw [lp_eq lp31_5]
    simp (config := { maxSteps := 1000000 }) (disch := omega) only [push_cast, ↓reduceIte, Nat.reduceEqDiff, Nat.reduceAdd, Nat.reduceLT, Nat.reduceLeDiff, Nat.reduceBEq, Nat.reduceMul, Nat.reduceSub, Int.reduceToNat, Int.reduceEq, Int.reduceLT, Int.reduceLE, Int.reduceNeg, Int.reduceAdd, Int.reduceSub, Int.reduceMul, Try.f31, kr31, kp31_5, ow31_5, ty3, ty4, ty9, ty22, ty23, ty27, ty34, ty36, tb4, h6, errA]
  | cons p r ih =>
    intro i h1
    obtain ⟨g1, g2, g3⟩ := drop_cons h1
    have g8 : (i : Int) < l.length := by omega
    have ih' := ih (i + 1) g3
    have hp := hb p (List.mem_of_getElem? g2)
    have hv := c_asked p.1.1 b true true cm none none m p.1.2.1 p.1.2.2 hp.2.1 hp.2.2 hm
    simp only [cast1, List.length_append, List.length_cons, List.length_nil, Nat.zero_add, Nat.add_zero, Int.natCast_zero, Int.natCast_add, Int.zero_add, ints_1, ints_0, ] at ih'
    rw [lp_eq lp31_5]
    unfold errA
    by_cases hx : errI m.length p.1.1 p.1.2.1 p.1.2.2 = 0
    · simp (config := { maxSteps := 1000000 }) (disch := omega) only [push_cast, ↓reduceIte, Nat.reduceEqDiff, Nat.reduceAdd, Nat.reduceLT, Nat.reduceLeDiff, Nat.reduceBEq, Nat.reduceMul, Nat.reduceSub, Int.reduceToNat, Int.reduceEq, Int.reduceLT, Int.reduceLE, Int.reduceNeg, Int.reduceAdd, Int.reduceSub, Int.reduceMul, Try.f31, kr31, kp31_5, ow31_5, ty3, ty4, ty9, ty22, ty23, ty27, ty34, ty36, tb4, g1, g8, ps0 g2, ps1 g2, ps2 g2, ps3 g2, ps4 g2, hv, hx, ih']
    · simp (config := { maxSteps := 1000000 }) (disch := omega) only [push_cast, ↓reduceIte, Nat.reduceEqDiff, Nat.reduceAdd, Nat.reduceLT, Nat.reduceLeDiff, Nat.reduceBEq, Nat.reduceMul, Nat.reduceSub, Int.reduceToNat, Int.reduceEq, Int.reduceLT, Int.reduceLE, Int.reduceNeg, Int.reduceAdd, Int.reduceSub, Int.reduceMul, Try.f31, kr31, kp31_5, ow31_5, ty3, ty4, ty9, ty22, ty23, ty27, ty34, ty36, tb4, g1, g8, ps0 g2, ps1 g2, ps2 g2, ps3 g2, ps4 g2, hv, hx]
theorem c_all (q b : Bool) (c cm : Option Nat) (m : List Int) (l : List PassQ) (hm : (m.length : Int) ≤ 9223372036854775806) (hb : ∀ p ∈ l, bdP p) (ho : okAll l) : CALL 31 [SL b cm m.length (ints m), PsT q c l] = some (I (errA m.length l), []) := by
  have h1 := c_valid q c l hb
  rw [if_pos ho] at h1
  have h0 := ho.1
  have hl := l_all5 q b c cm m l hm (by omega) hb l 0 rfl
  simp only [cast1, List.length_append, List.length_cons, List.length_nil, Nat.zero_add, Nat.add_zero, Int.natCast_zero, Int.natCast_add, Int.zero_add, ints_1, ints_0, ] at hl
  refine lim_run (fn := Try.f31) fn31 rfl body31 (Nat.le_of_ble_eq_true rfl) ok31 ?_
  by_cases he : errA m.length l = 0
  · rw [if_pos he] at hl
    simp (config := { maxSteps := 1000000 }) (disch := omega) only [push_cast, ↓reduceIte, Nat.reduceEqDiff, Nat.reduceAdd, Nat.reduceLT, Nat.reduceLeDiff, Nat.reduceBEq, Nat.reduceMul, Nat.reduceSub, Int.reduceToNat, Int.reduceEq, Int.reduceLT, Int.reduceLE, Int.reduceNeg, Int.reduceAdd, Int.reduceSub, Int.reduceMul, Try.f31, kr31, kp31_5, ow31_5, ty3, ty4, ty9, ty22, ty23, ty27, ty34, ty36, tb4, h1, hl, he]
  · rw [if_neg he] at hl
    simp (config := { maxSteps := 1000000 }) (disch := omega) only [push_cast, ↓reduceIte, Nat.reduceEqDiff, Nat.reduceAdd, Nat.reduceLT, Nat.reduceLeDiff, Nat.reduceBEq, Nat.reduceMul, Nat.reduceSub, Int.reduceToNat, Int.reduceEq, Int.reduceLT, Int.reduceLE, Int.reduceNeg, Int.reduceAdd, Int.reduceSub, Int.reduceMul, Try.f31, kr31, kp31_5, ow31_5, ty3, ty4, ty9, ty22, ty23, ty27, ty34, ty36, tb4, h1, hl, he]
theorem rl_isPasses2 (q : Bool) (c : Option Nat) (l : List PassQ) (hl : (l.length : Int) ≤ 9223372036854775806) (hb : ∀ p ∈ l, bdP p) : ∀ (r : List PassQ) (i : Nat), l.drop i = r →
    lp E0 pr0 41 2 ⟨[(0, PsT q c l), (3, I i)], [], 0⟩ =
      if ∀ p ∈ r, okPs p then some (.exit 0, ⟨[(0, PsT q c l)], [], 0⟩) else some (.ret, ⟨[(2, B false)], [], 0⟩) := by
  intro r
  induction r with
  | nil =>
    intro i h1
    have h5 := drop_nil h1
    have h6 : ¬ (i : Int) < l.length := by omega
    rw [lp_eq lp41_2]
    simp (config := { maxSteps := 1000000 }) (disch := omega) only [push_cast, ↓reduceIte, Nat.reduceEqDiff, Nat.reduceAdd, Nat.reduceLT, Nat.reduceLeDiff, Nat.reduceBEq, Nat.reduceMul, Nat.reduceSub, Int.reduceToNat, Int.reduceEq, Int.reduceLT, Int.reduceLE, Int.reduceNeg, Int.reduceAdd, Int.reduceSub, Int.reduceMul, Try.f41, kr41, kp41_2, ow41_2, ty3, ty4, ty9, ty22, ty23, ty34, ty36, tb4, h6]
    simp
  | cons p r ih =>
    intro i h1
    obtain ⟨g1, g2, g3⟩ := drop_cons h1
    have g8 : (i : Int) < l.length := by omega
    have ih' := ih (i + 1) g3
    have hp := hb p (List.mem_of_getElem? g2)
    have hv := r_Valid p.1.1 true true none none p.1.2.1 p.1.2.2 hp.1
    simp only [cast1, List.length_append, List.length_cons, List.length_nil, Nat.zero_add, Nat.add_zero, Int.natCast_zero, Int.natCast_add, Int.zero_add, ints_1, ints_0, ] at ih'
    rw [lp_eq lp41_2]
    have key : okPs p ↔ okD p.1.1 p.1.2.1 p.1.2.2 ∧ okH p.2.1 := Iff.rfl
    unfold okH at key
    by_cases hx : okD p.1.1 p.1.2.1 p.1.2.2
    · by_cases y1 : p.2.1 = (ByteArray.mk #[115, 104, 97, 114, 101])
      · have hz : okPs p := key.2 ⟨hx, .inl y1⟩
        simp (config := { maxSteps := 1000000 }) (disch := omega) only [push_cast, ↓reduceIte, Nat.reduceEqDiff, Nat.reduceAdd, Nat.reduceLT, Nat.reduceLeDiff, Nat.reduceBEq, Nat.reduceMul, Nat.reduceSub, Int.reduceToNat, Int.reduceEq, Int.reduceLT, Int.reduceLE, Int.reduceNeg, Int.reduceAdd, Int.reduceSub, Int.reduceMul, Try.f41, kr41, kp41_2, ow41_2, ty3, ty4, ty9, ty22, ty23, ty34, ty36, tb4, g1, g8, ps0 g2, ps1 g2, ps2 g2, ps3 g2, ps4 g2, hv, hx, hz, y1, ih', List.forall_mem_cons]
      · by_cases y2 : p.2.1 = (ByteArray.mk #[99, 111, 112, 121])
        · have hz : okPs p := key.2 ⟨hx, .inr (.inl y2)⟩
          simp (config := { maxSteps := 1000000 }) (disch := omega) only [push_cast, ↓reduceIte, Nat.reduceEqDiff, Nat.reduceAdd, Nat.reduceLT, Nat.reduceLeDiff, Nat.reduceBEq, Nat.reduceMul, Nat.reduceSub, Int.reduceToNat, Int.reduceEq, Int.reduceLT, Int.reduceLE, Int.reduceNeg, Int.reduceAdd, Int.reduceSub, Int.reduceMul, Try.f41, kr41, kp41_2, ow41_2, ty3, ty4, ty9, ty22, ty23, ty34, ty36, tb4, g1, g8, ps0 g2, ps1 g2, ps2 g2, ps3 g2, ps4 g2, hv, hx, hz, y1, y2, nCS, ih', List.forall_mem_cons]
        · by_cases y3 : p.2.1 = (ByteArray.mk #[118, 97, 108, 117, 101])
          · have hz : okPs p := key.2 ⟨hx, .inr (.inr (.inl y3))⟩
            simp (config := { maxSteps := 1000000 }) (disch := omega) only [push_cast, ↓reduceIte, Nat.reduceEqDiff, Nat.reduceAdd, Nat.reduceLT, Nat.reduceLeDiff, Nat.reduceBEq, Nat.reduceMul, Nat.reduceSub, Int.reduceToNat, Int.reduceEq, Int.reduceLT, Int.reduceLE, Int.reduceNeg, Int.reduceAdd, Int.reduceSub, Int.reduceMul, Try.f41, kr41, kp41_2, ow41_2, ty3, ty4, ty9, ty22, ty23, ty34, ty36, tb4, g1, g8, ps0 g2, ps1 g2, ps2 g2, ps3 g2, ps4 g2, hv, hx, hz, y1, y2, y3, nVS, nVC, ih', List.forall_mem_cons]
          · by_cases y4 : p.2.1 = (ByteArray.mk #[97, 117, 116, 111])
            · have hz : okPs p := key.2 ⟨hx, .inr (.inr (.inr y4))⟩
              simp (config := { maxSteps := 1000000 }) (disch := omega) only [push_cast, ↓reduceIte, Nat.reduceEqDiff, Nat.reduceAdd, Nat.reduceLT, Nat.reduceLeDiff, Nat.reduceBEq, Nat.reduceMul, Nat.reduceSub, Int.reduceToNat, Int.reduceEq, Int.reduceLT, Int.reduceLE, Int.reduceNeg, Int.reduceAdd, Int.reduceSub, Int.reduceMul, Try.f41, kr41, kp41_2, ow41_2, ty3, ty4, ty9, ty22, ty23, ty34, ty36, tb4, g1, g8, ps0 g2, ps1 g2, ps2 g2, ps3 g2, ps4 g2, hv, hx, hz, y1, y2, y3, y4, nAS, nAC, nAV, ih', List.forall_mem_cons]
            · have hz : ¬ okPs p := fun h => by rcases (key.1 h).2 with h | h | h | h <;> contradiction
              simp (config := { maxSteps := 1000000 }) (disch := omega) only [push_cast, ↓reduceIte, Nat.reduceEqDiff, Nat.reduceAdd, Nat.reduceLT, Nat.reduceLeDiff, Nat.reduceBEq, Nat.reduceMul, Nat.reduceSub, Int.reduceToNat, Int.reduceEq, Int.reduceLT, Int.reduceLE, Int.reduceNeg, Int.reduceAdd, Int.reduceSub, Int.reduceMul, Try.f41, kr41, kp41_2, ow41_2, ty3, ty4, ty9, ty22, ty23, ty34, ty36, tb4, g1, g8, ps0 g2, ps1 g2, ps2 g2, ps3 g2, ps4 g2, hv, hx, hz, y1, y2, y3, y4, List.forall_mem_cons]
    · have hz : ¬ okPs p := fun h => hx h.1
      simp (config := { maxSteps := 1000000 }) (disch := omega) only [push_cast, ↓reduceIte, Nat.reduceEqDiff, Nat.reduceAdd, Nat.reduceLT, Nat.reduceLeDiff, Nat.reduceBEq, Nat.reduceMul, Nat.reduceSub, Int.reduceToNat, Int.reduceEq, Int.reduceLT, Int.reduceLE, Int.reduceNeg, Int.reduceAdd, Int.reduceSub, Int.reduceMul, Try.f41, kr41, kp41_2, ow41_2, ty3, ty4, ty9, ty22, ty23, ty34, ty36, tb4, g1, g8, ps0 g2, ps1 g2, ps2 g2, ps3 g2, ps4 g2, hv, hx, hz, List.forall_mem_cons]
theorem r_isPasses (q : Bool) (c : Option Nat) (l : List PassQ) (hl : (l.length : Int) ≤ 9223372036854775806) (hb : ∀ p ∈ l, bdP p) : CALL 41 [PsT q c l] = some (B (decide (okAll l)), []) := by
  have hl := rl_isPasses2 q c l hl hb l 0 rfl
  simp only [cast1, List.length_append, List.length_cons, List.length_nil, Nat.zero_add, Nat.add_zero, Int.natCast_zero, Int.natCast_add, Int.zero_add, ints_1, ints_0, ] at hl
  refine lim_run (fn := Try.f41) fn41 rfl body41 (Nat.le_of_ble_eq_true rfl) ok41 ?_
  by_cases hz : ∀ p ∈ l, okPs p
  · rw [if_pos hz] at hl
    simp (config := { maxSteps := 1000000 }) (disch := omega) only [push_cast, ↓reduceIte, Nat.reduceEqDiff, Nat.reduceAdd, Nat.reduceLT, Nat.reduceLeDiff, Nat.reduceBEq, Nat.reduceMul, Nat.reduceSub, Int.reduceToNat, Int.reduceEq, Int.reduceLT, Int.reduceLE, Int.reduceNeg, Int.reduceAdd, Int.reduceSub, Int.reduceMul, Try.f41, kr41, kp41_2, ow41_2, ty3, ty4, ty9, ty22, ty23, ty34, ty36, tb4, hl]
    have e : decide (okAll l) = decide ((l.length : Int) ≤ 8) := by
      by_cases h : (l.length : Int) ≤ 8
      · rw [decide_eq_true (p := okAll l) ⟨h, hz⟩, decide_eq_true h]
      · rw [decide_eq_false (p := okAll l) fun q => h q.1, decide_eq_false h]
    rw [e]
  · rw [if_neg hz] at hl
    rw [decide_eq_false (p := okAll l) fun h => hz h.2]
    simp (config := { maxSteps := 1000000 }) (disch := omega) only [push_cast, ↓reduceIte, Nat.reduceEqDiff, Nat.reduceAdd, Nat.reduceLT, Nat.reduceLeDiff, Nat.reduceBEq, Nat.reduceMul, Nat.reduceSub, Int.reduceToNat, Int.reduceEq, Int.reduceLT, Int.reduceLE, Int.reduceNeg, Int.reduceAdd, Int.reduceSub, Int.reduceMul, Try.f41, kr41, kp41_2, ow41_2, ty3, ty4, ty9, ty22, ty23, ty34, ty36, tb4, hl]
theorem r_packed (b1 b2 : Bool) (c1 c2 : Option Nat) (p : PassQ) (hp : bdP p) (ho : okH p.2.1) : CALL 43 [P1 b1 b2 c1 c2 p] = some (B (packedQ p), []) := by
  have h1 := r_Contiguous p.1.1 b1 b2 c1 c2 p.1.2.1 p.1.2.2 hp.1
  unfold packedQ
  refine lim_run (fn := Try.f43) fn43 rfl body43 (Nat.le_of_ble_eq_true rfl) ok43 ?_
  rcases ho with ha | ha | ha | ha
  · simp (config := { maxSteps := 1000000 }) (disch := omega) only [push_cast, ↓reduceIte, Nat.reduceEqDiff, Nat.reduceAdd, Nat.reduceLT, Nat.reduceLeDiff, Nat.reduceBEq, Nat.reduceMul, Nat.reduceSub, Int.reduceToNat, Int.reduceEq, Int.reduceLT, Int.reduceLE, Int.reduceNeg, Int.reduceAdd, Int.reduceSub, Int.reduceMul, Try.f43, kr43, ty3, ty4, ty9, ty22, ty34, ty36, tb4, h1, ha, nSC, nSV, nSA]
    rfl
  · simp (config := { maxSteps := 1000000 }) (disch := omega) only [push_cast, ↓reduceIte, Nat.reduceEqDiff, Nat.reduceAdd, Nat.reduceLT, Nat.reduceLeDiff, Nat.reduceBEq, Nat.reduceMul, Nat.reduceSub, Int.reduceToNat, Int.reduceEq, Int.reduceLT, Int.reduceLE, Int.reduceNeg, Int.reduceAdd, Int.reduceSub, Int.reduceMul, Try.f43, kr43, ty3, ty4, ty9, ty22, ty34, ty36, tb4, h1, ha, nCS, nCA, nCV]
    rfl
  · simp (config := { maxSteps := 1000000 }) (disch := omega) only [push_cast, ↓reduceIte, Nat.reduceEqDiff, Nat.reduceAdd, Nat.reduceLT, Nat.reduceLeDiff, Nat.reduceBEq, Nat.reduceMul, Nat.reduceSub, Int.reduceToNat, Int.reduceEq, Int.reduceLT, Int.reduceLE, Int.reduceNeg, Int.reduceAdd, Int.reduceSub, Int.reduceMul, Try.f43, kr43, ty3, ty4, ty9, ty22, ty34, ty36, tb4, h1, ha, nVS, nVA, nVC]
    rfl
  · simp (config := { maxSteps := 1000000 }) (disch := omega) only [push_cast, ↓reduceIte, Nat.reduceEqDiff, Nat.reduceAdd, Nat.reduceLT, Nat.reduceLeDiff, Nat.reduceBEq, Nat.reduceMul, Nat.reduceSub, Int.reduceToNat, Int.reduceEq, Int.reduceLT, Int.reduceLE, Int.reduceNeg, Int.reduceAdd, Int.reduceSub, Int.reduceMul, Try.f43, kr43, ty3, ty4, ty9, ty22, ty34, ty36, tb4, h1, ha, nAS, nAV, nAC]
end Go.Proofs.Ytochkebkfoophaa.Tev
