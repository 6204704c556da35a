/- The document's first, FirstNest, SafeNest. -/
import Derived.Test.YtopnopepcpepbaaC22k
import Derived.Test.YtopnopepcpepbaaC22l
namespace Go.Proofs.Ytopnopepcpepbaa.Tev
open Go Go.RowKit Go.Proofs Go.Proofs.Ytopnopepcpepbaa.Q
set_option linter.unusedSectionVars false
set_option maxRecDepth 100000
set_option maxHeartbeats 0
set_option linter.unusedSimpArgs false
set_option linter.unusedVariables false
theorem row_tri (l : List TriP) (k : Nat) : rowAt (l.flatMap triC) (k * 3) ((l.length - k) * 3) = (l.drop k).flatMap triC := by
  have hl : ∀ l : List TriP, (l.flatMap triC).length = l.length * 3 := by
    intro l
    induction l with
    | nil => rfl
    | cons t l ih => rw [List.flatMap_cons, List.length_append, ih, triC_len, List.length_cons]; omega
  have hd : ∀ (l : List TriP) (k : Nat), (l.flatMap triC).drop (k * 3) = (l.drop k).flatMap triC := by
    intro l
    induction l with
    | nil => intro k; simp
    | cons t l ih =>
      intro k
      cases k with
      | zero => rfl
      | succ k => rw [List.flatMap_cons, List.drop_succ_cons, ← ih k, show (k + 1) * 3 = (triC t).length + k * 3 by rw [triC_len]; omega, List.drop_append]
                  simp
  unfold rowAt
  rw [hd, ← List.length_drop, ← hl, List.take_length]
section
variable (q : Bool) (c : Option Nat) (l : List TriP) (b : Bool) (ca : Option Nat) (a : List Int) (low high : Int)
def outF (g : List Int) (x : Int) : List Int := match dRec low high (l.drop g.length) (a.drop g.length) x with
  | some v => g ++ v
  | none => []
abbrev stepF (t : TriP) (r : List TriP) (y : Int) (p : List Int) (x : Int) (m : Nat) : Option (List Int) := (dRec low high r p (x + y * (t.1 + (m : Int) * t.2.2))).map fun v => (t.1 + (m : Int) * t.2.2) :: v
theorem rl_first7 (hl : l.length ≤ 3) (hal : a.length = l.length) (hz : ∀ t ∈ l, t.2.2 ≠ 0) (hn : ∀ t ∈ l, nearT t) (ha : allN a) (g : List Int) (bg : Bool) (cg : Option Nat) (x : Int) {t : TriP} {r : List TriP} {y : Int} {p : List Int}
    (h1 : l.drop g.length = t :: r) (h2 : a.drop g.length = y :: p) (hb1 : -1000000 - 1000000000000 * (g.length : Int) ≤ x) (hb2 : x ≤ 1000000 + 1000000000000 * (g.length : Int))
    (ih : ∀ (z : Int) (bg : Bool) (cg : Option Nat) (x : Int), -1000000 - 1000000000000 * ((g.length : Int) + 1) ≤ x → x ≤ 1000000 + 1000000000000 * ((g.length : Int) + 1) →
      CALL 41 [TrsT q c l, SL b ca a.length (ints a), I x, I low, I high, SL bg cg (g.length + 1) (ints (g ++ [z]))] = some (.sl 0 0 (outF l a low high (g ++ [z]) x).length 1 none, [ints (outF l a low high (g ++ [z]) x)])) :
    ∀ (d m : Nat), (m : Int) + d = cntT t →
    lp E0 pr0 41 7 ⟨[(0, TrsT q c l), (1, SL b ca a.length (ints a)), (2, I x), (3, I low), (4, I high), (5, SL bg cg g.length (ints g)), (13, I g.length), (14, I m)], [], 0⟩ =
      match dLoop (stepF low high t r y p x) d m with
      | some v => some (.ret, ⟨[(12, .sl 0 0 (g ++ v).length 1 none)], [(0, .arr (ints (g ++ v)) 0 1)], 1⟩)
      | none => if noneT r = true ∧ 0 < d then some (.ret, ⟨[(12, .c (.s (some 0) 0 []))], [], 0⟩) else some (.exit 0, ⟨[], [], 0⟩) := by
  obtain ⟨g1, g2, g3⟩ := drop_cons h1
  obtain ⟨g4, g5, g6⟩ := drop_cons h2
  have k1 : (g.length : Int) < l.length := by omega
  have k2 : (g.length : Int) < a.length := by omega
  have k0 : (0 : Int) ≤ (g.length : Int) + 1 := by omega
  have k3 : (g.length : Int) + 1 ≤ l.length := by omega
  have k4 : ((g.length : Int) + 1).toNat = g.length + 1 := by omega
  have h0 := hz t (List.mem_of_getElem? g2)
  have hx := hn t (List.mem_of_getElem? g2)
  have hy := ha y (List.mem_of_getElem? g5)
  have ht := r_turns t.1 t.2.1 t.2.2 h0 hx.1 hx.2.1 hx.2.2
  change CALL _ _ = some (I (cntT t), []) at ht
  obtain ⟨c0, c1⟩ := cntT_bd h0 hx
  have hr : ∀ u ∈ r, u ∈ l := fun u hu => List.mem_of_mem_drop (g3 ▸ hu)
  have hN := fun cap => r_none q cap r (by have := congrArg List.length g3; rw [List.length_drop] at this; omega) (fun u hu => hz u (hr u hu)) (fun u hu => hn u (hr u hu))
  have hrl : r.length = l.length - (g.length + 1) := by rw [← g3, List.length_drop]
  have hrow := row_tri l (g.length + 1)
  rw [g3] at hrow
  unfold TrsT at hN
  rw [hrl] at hN
  intro d
  induction d with
  | zero =>
    intro m hm
    have h6 : ¬ (m : Int) < cntT t := by omega
    rw [show (if noneT r = true ∧ 0 < 0 then some (Ex.ret, (⟨[(12, .c (.s (some 0) 0 []))], [], 0⟩ : St)) else some (Ex.exit 0, ⟨[], [], 0⟩)) = some (.exit 0, ⟨[], [], 0⟩) from if_neg (by omega)]
    rw [lp_eq lp41_7]
    simp (config := { maxSteps := 1000000 }) (disch := omega) only [push_cast, ↓reduceIte, Nat.reduceEqDiff, Nat.reduceAdd, Nat.reduceLT, Nat.reduceLeDiff, Nat.reduceBEq, Nat.reduceMul, Nat.reduceSub, Int.reduceToNat, Int.reduceEq, Int.reduceLT, Int.reduceLE, Int.reduceNeg, Int.reduceAdd, Int.reduceSub, Int.reduceMul, Try.f41, kr41, kp41_7, ow41_7, ty3, ty25, ty41, ty45, k1, g1, tr0 g2, tr1 g2, tr2 g2, ht, h6, dLoop]
  | succ d ihd =>
    intro m hm
    have h6 : (m : Int) < cntT t := by omega
    have hv := near_turn h0 hx.1 hx.2.1 (show (0 : Int) ≤ m by omega) (show (m : Int) < cnt t.1 t.2.1 t.2.2 from h6)
    have m2 := mulN hy hv
    have ih2 := fun bg cg => ih (t.1 + (m : Int) * t.2.2) bg cg (x + y * (t.1 + (m : Int) * t.2.2)) (by omega) (by omega)
    have ihd' := ihd (m + 1) (by omega)
    simp only [cast1, List.length_append, List.length_cons, List.length_nil, Nat.zero_add, Nat.add_zero, Int.natCast_zero, Int.natCast_add, Int.zero_add, ints_1, ints_0, ] at ihd'
    have x1 := hx.1
    unfold near at hv x1
    have m3 : -6000000 ≤ (m : Int) * t.2.2 ∧ (m : Int) * t.2.2 ≤ 6000000 := by omega
    have oF : outF l a low high (g ++ [t.1 + (m : Int) * t.2.2]) (x + y * (t.1 + (m : Int) * t.2.2)) = match dRec low high r p (x + y * (t.1 + (m : Int) * t.2.2)) with | some v => g ++ (t.1 + (m : Int) * t.2.2) :: v | none => [] := by
      unfold outF
      rw [List.length_append, List.length_singleton, g3, g6]
      cases dRec low high r p (x + y * (t.1 + (m : Int) * t.2.2)) with
      | none => rfl
      | some v => simp
    have hr2 : rowAt (ints (g ++ [t.1 + (m : Int) * t.2.2])) 0 (g.length + 1) = ints (g ++ [t.1 + (m : Int) * t.2.2]) := rowAt_all _ _ (by rw [ints_len]; simp)
    rw [oF] at ih2
    simp only [dLoop, stepF]
    rw [lp_eq lp41_7]
    cases hno : noneT r with
    | true =>
      rw [hno] at hN
      rw [dRec_noneT low high r p _ hno]
      have hnn : dLoop (stepF low high t r y p x) d (m + 1) = none := (dLoop_none _ _ _).2 fun k _ => by
        show (dRec low high r p _).map _ = none
        rw [dRec_noneT low high r p _ hno]; rfl
      unfold stepF at hnn
      rw [hnn]
      simp (config := { maxSteps := 1000000 }) (disch := omega) only [push_cast, ↓reduceIte, Nat.reduceEqDiff, Nat.reduceAdd, Nat.reduceLT, Nat.reduceLeDiff, Nat.reduceBEq, Nat.reduceMul, Nat.reduceSub, Int.reduceToNat, Int.reduceEq, Int.reduceLT, Int.reduceLE, Int.reduceNeg, Int.reduceAdd, Int.reduceSub, Int.reduceMul, Try.f41, kr41, kp41_7, ow41_7, ty3, ty25, ty41, ty45, k0, k1, k2, k3, k4, g1, g4, tr0 g2, tr1 g2, tr2 g2, getD_of g5, ht, h6, hrow, hN, Option.map_none]
      simp
    | false =>
      rw [hno] at hN ihd'
      simp only [Bool.false_eq_true, false_and, if_false] at ihd' ⊢
      cases hd : dRec low high r p (x + y * (t.1 + (m : Int) * t.2.2)) with
      | some v =>
        rw [hd] at ih2
        simp only [Option.map_some] at ih2 ⊢
        have e1 : (0 : Int) < (g.length : Int) + ((v.length : Int) + 1) := by omega
        simp (config := { maxSteps := 1000000 }) (disch := omega) only [push_cast, ↓reduceIte, Nat.reduceEqDiff, Nat.reduceAdd, Nat.reduceLT, Nat.reduceLeDiff, Nat.reduceBEq, Nat.reduceMul, Nat.reduceSub, Int.reduceToNat, Int.reduceEq, Int.reduceLT, Int.reduceLE, Int.reduceNeg, Int.reduceAdd, Int.reduceSub, Int.reduceMul, Try.f41, kr41, kp41_7, ow41_7, ty3, ty25, ty41, ty45, k0, k1, k2, k3, k4, g1, g4, tr0 g2, tr1 g2, tr2 g2, getD_of g5, ht, h6, hrow, hN, hr2, ih2, e1]
      | none =>
        rw [hd] at ih2
        simp only [Option.map_none] at ih2 ⊢
        simp (config := { maxSteps := 1000000 }) (disch := omega) only [push_cast, ↓reduceIte, Nat.reduceEqDiff, Nat.reduceAdd, Nat.reduceLT, Nat.reduceLeDiff, Nat.reduceBEq, Nat.reduceMul, Nat.reduceSub, Int.reduceToNat, Int.reduceEq, Int.reduceLT, Int.reduceLE, Int.reduceNeg, Int.reduceAdd, Int.reduceSub, Int.reduceMul, Try.f41, kr41, kp41_7, ow41_7, ty3, ty25, ty41, ty45, k0, k1, k2, k3, k4, g1, g4, tr0 g2, tr1 g2, tr2 g2, getD_of g5, ht, h6, hrow, hN, hr2, ih2, ihd']
theorem r_first (hl : l.length ≤ 3) (hal : a.length = l.length) (hz : ∀ t ∈ l, t.2.2 ≠ 0) (hn : ∀ t ∈ l, nearT t) (ha : allN a) : ∀ (d : Nat) (g : List Int) (bg : Bool) (cg : Option Nat) (x : Int), g.length + d = l.length →
    -1000000 - 1000000000000 * (g.length : Int) ≤ x → x ≤ 1000000 + 1000000000000 * (g.length : Int) →
    CALL 41 [TrsT q c l, SL b ca a.length (ints a), I x, I low, I high, SL bg cg g.length (ints g)] = some (.sl 0 0 (outF l a low high g x).length 1 none, [ints (outF l a low high g x)]) := by
  intro d
  induction d with
  | zero =>
    intro g bg cg x h1 _ _
    have h := r_first0 q b bg c ca cg l a g x low high hl (by omega)
    have e : outF l a low high g x = if x < low ∨ high < x then g else [] := by
      unfold outF
      rw [List.drop_eq_nil_of_le (by omega), List.drop_eq_nil_of_le (by omega), dRec]
      by_cases hb : x < low ∨ high < x
      · rw [if_pos hb, if_pos hb]; simp
      · rw [if_neg hb, if_neg hb]
    rw [e]; exact h
  | succ d ih =>
    intro g bg cg x h1 b1 b2
    obtain ⟨t, r, e1⟩ : ∃ t r, l.drop g.length = t :: r := by
      cases hd : l.drop g.length with
      | nil => have := drop_nil hd; omega
      | cons t r => exact ⟨t, r, rfl⟩
    obtain ⟨y, p, e2⟩ : ∃ t r, a.drop g.length = t :: r := by
      cases hd : a.drop g.length with
      | nil => have := drop_nil hd; omega
      | cons t r => exact ⟨t, r, rfl⟩
    obtain ⟨g1, g2, g3⟩ := drop_cons e1
    have h0 := hz t (List.mem_of_getElem? g2)
    have hx := hn t (List.mem_of_getElem? g2)
    obtain ⟨c0, c1⟩ := cntT_bd h0 hx
    have h7 := rl_first7 q c l b ca a low high hl hal hz hn ha g bg cg x e1 e2 b1 b2 (fun z bg cg x q1 q2 => by
      have := ih (g ++ [z]) bg cg x (by simp; omega) (by simp; omega) (by simp; omega)
      simpa using this) (cntT t).toNat 0 (by omega)
    have e3 : dLoop (stepF low high t r y p x) (cntT t).toNat 0 = dRec low high (t :: r) (y :: p) x := by rw [dRec]
    rw [e3] at h7
    have oF : outF l a low high g x = match dRec low high (t :: r) (y :: p) x with | some v => g ++ v | none => [] := by unfold outF; rw [e1, e2]
    rw [oF]
    simp only [Int.natCast_zero] at h7
    have k1 : ¬ (g.length : Int) = l.length := by omega
    refine lim_run (fn := Try.f41) fn41 rfl body41 (Nat.le_of_ble_eq_true rfl) ok41 ?_
    cases hd : dRec low high (t :: r) (y :: p) x with
    | some v =>
      rw [hd] at h7
      have hr2 : rowAt (ints (g ++ v)) 0 (g.length + v.length) = ints (g ++ v) := rowAt_all _ _ (by rw [ints_len]; simp)
      simp only [List.length_append] at h7
      simp (config := { maxSteps := 1000000 }) (disch := omega) only [push_cast, ↓reduceIte, Nat.reduceEqDiff, Nat.reduceAdd, Nat.reduceLT, Nat.reduceLeDiff, Nat.reduceBEq, Nat.reduceMul, Nat.reduceSub, Int.reduceToNat, Int.reduceEq, Int.reduceLT, Int.reduceLE, Int.reduceNeg, Int.reduceAdd, Int.reduceSub, Int.reduceMul, Try.f41, kr41, kp41_7, ow41_7, ty3, ty25, ty41, ty45, k1, h7, hr2]
    | none =>
      rw [hd] at h7
      simp only at h7
      by_cases hno : noneT r = true ∧ 0 < (cntT t).toNat
      · rw [if_pos hno] at h7
        simp (config := { maxSteps := 1000000 }) (disch := omega) only [push_cast, ↓reduceIte, Nat.reduceEqDiff, Nat.reduceAdd, Nat.reduceLT, Nat.reduceLeDiff, Nat.reduceBEq, Nat.reduceMul, Nat.reduceSub, Int.reduceToNat, Int.reduceEq, Int.reduceLT, Int.reduceLE, Int.reduceNeg, Int.reduceAdd, Int.reduceSub, Int.reduceMul, Try.f41, kr41, kp41_7, ow41_7, ty3, ty25, ty41, ty45, k1, h7]
      · rw [if_neg hno] at h7
        simp (config := { maxSteps := 1000000 }) (disch := omega) only [push_cast, ↓reduceIte, Nat.reduceEqDiff, Nat.reduceAdd, Nat.reduceLT, Nat.reduceLeDiff, Nat.reduceBEq, Nat.reduceMul, Nat.reduceSub, Int.reduceToNat, Int.reduceEq, Int.reduceLT, Int.reduceLE, Int.reduceNeg, Int.reduceAdd, Int.reduceSub, Int.reduceMul, Try.f41, kr41, kp41_7, ow41_7, ty3, ty25, ty41, ty45, k1, h7]
theorem r_FirstNest (x : Int) (hl : (l.length : Int) ≤ 9223372036854775806) (hal : (a.length : Int) ≤ 9223372036854775806) : CALL 26 [TrsT q c l, SL b ca a.length (ints a), I x, I low, I high] = some (.tup [.sl 0 0 (firstR l a x low high).length 1 none, I (nestE l a x low high)], [ints (firstR l a x low high)]) := by
  have hN := r_nested q c l b ca a x low high hl hal
  refine lim_run (fn := Try.f26) fn26 rfl body26 (Nat.le_of_ble_eq_true rfl) ok26 ?_
  by_cases he : nestE l a x low high = 0
  · obtain ⟨k1, k2, k3, k4⟩ := nestE_ok he
    have hx := k2.2.2.2.1 x (by simp)
    unfold near at hx
    have hf := fun bg cg => r_first q c l b ca a low high k2.2.1 k2.2.2.1 k1 k3 k2.2.2.2.2 l.length [] bg cg x (by simp) (by simp; omega) (by simp; omega)
    have e : outF l a low high [] x = firstR l a x low high := by
      rw [firstR_dRec he]
      unfold outF
      simp only [List.length_nil, List.drop_zero, List.nil_append]
      cases dRec low high l a x <;> rfl
    rw [e] at hf
    simp only [List.length_nil, ints_0] at hf
    rw [he] at hN
    have hr2 : rowAt (ints (firstR l a x low high)) 0 (firstR l a x low high).length = ints (firstR l a x low high) := rowAt_all _ _ (by rw [ints_len])
    simp (config := { maxSteps := 1000000 }) (disch := omega) only [push_cast, ↓reduceIte, Nat.reduceEqDiff, Nat.reduceAdd, Nat.reduceLT, Nat.reduceLeDiff, Nat.reduceBEq, Nat.reduceMul, Nat.reduceSub, Int.reduceToNat, Int.reduceEq, Int.reduceLT, Int.reduceLE, Int.reduceNeg, Int.reduceAdd, Int.reduceSub, Int.reduceMul, Try.f26, kr26, ty3, ty26, ty41, hN, he, hf, hr2]
  · have e : firstR l a x low high = [] := by unfold firstR; rw [if_neg he]
    rw [e]
    simp (config := { maxSteps := 1000000 }) (disch := omega) only [push_cast, ↓reduceIte, Nat.reduceEqDiff, Nat.reduceAdd, Nat.reduceLT, Nat.reduceLeDiff, Nat.reduceBEq, Nat.reduceMul, Nat.reduceSub, Int.reduceToNat, Int.reduceEq, Int.reduceLT, Int.reduceLE, Int.reduceNeg, Int.reduceAdd, Int.reduceSub, Int.reduceMul, Try.f26, kr26, ty3, ty26, ty41, hN, he]
theorem r_SafeNest (x : Int) (hl : (l.length : Int) ≤ 9223372036854775806) (hal : (a.length : Int) ≤ 9223372036854775806) : CALL 25 [TrsT q c l, SL b ca a.length (ints a), I x, I low, I high] = some (.tup [B (decide (nestE l a x low high = 0) && decide ((firstR l a x low high).length = 0)), I (nestE l a x low high)], []) := by
  have hf := r_FirstNest q c l b ca a low high x hl hal
  have e0 : ((firstR l a x low high).length : Int) = 0 ↔ (firstR l a x low high).length = 0 := by omega
  refine lim_run (fn := Try.f25) fn25 rfl body25 (Nat.le_of_ble_eq_true rfl) ok25 ?_
  by_cases he : nestE l a x low high = 0
  · by_cases h0 : (firstR l a x low high).length = 0
    · simp (config := { maxSteps := 1000000 }) (disch := omega) only [push_cast, ↓reduceIte, Nat.reduceEqDiff, Nat.reduceAdd, Nat.reduceLT, Nat.reduceLeDiff, Nat.reduceBEq, Nat.reduceMul, Nat.reduceSub, Int.reduceToNat, Int.reduceEq, Int.reduceLT, Int.reduceLE, Int.reduceNeg, Int.reduceAdd, Int.reduceSub, Int.reduceMul, Try.f25, kr25, ty3, ty4, ty26, ty41, tb4, hf, he, h0]
    · have h1 : ¬ ((firstR l a x low high).length : Int) = 0 := fun h => h0 (e0.1 h)
      simp (config := { maxSteps := 1000000 }) (disch := omega) only [push_cast, ↓reduceIte, Nat.reduceEqDiff, Nat.reduceAdd, Nat.reduceLT, Nat.reduceLeDiff, Nat.reduceBEq, Nat.reduceMul, Nat.reduceSub, Int.reduceToNat, Int.reduceEq, Int.reduceLT, Int.reduceLE, Int.reduceNeg, Int.reduceAdd, Int.reduceSub, Int.reduceMul, Try.f25, kr25, ty3, ty4, ty26, ty41, tb4, hf, he, h0, h1]
  · simp (config := { maxSteps := 1000000 }) (disch := omega) only [push_cast, ↓reduceIte, Nat.reduceEqDiff, Nat.reduceAdd, Nat.reduceLT, Nat.reduceLeDiff, Nat.reduceBEq, Nat.reduceMul, Nat.reduceSub, Int.reduceToNat, Int.reduceEq, Int.reduceLT, Int.reduceLE, Int.reduceNeg, Int.reduceAdd, Int.reduceSub, Int.reduceMul, Try.f25, kr25, ty3, ty4, ty26, ty41, tb4, hf, he]
end
end Go.Proofs.Ytopnopepcpepbaa.Tev
