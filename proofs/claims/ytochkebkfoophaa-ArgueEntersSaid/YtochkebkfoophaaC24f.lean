/- The document's Enter. -/
import Derived.Test.YtochkebkfoophaaC24d
namespace Go.Proofs.Ytochkebkfoophaa.Tev
open Go Go.RowKit Go.Proofs Go.Proofs.Ytochkebkfoophaa.Q
set_option linter.unusedSectionVars false
set_option maxRecDepth 100000
set_option maxHeartbeats 0
set_option linter.unusedSimpArgs false
set_option linter.unusedVariables false
theorem rl_Whole6 (b : Bool) (c : Option Nat) (E : List Int) (hE : exts E) : ∀ (r : List Int) (i : Nat) (a : Int) (st : List Int) (cp : Option Nat), E.drop i = r → 0 ≤ a → a ≤ B4 i → st.length = i →
    lp E0 pr0 44 6 ⟨[(0, SL b c E.length (ints E)), (2, .pt 0 0), (4, .pt 3 0), (5, I a), (6, I i)],
        [(0, .box [I 0, nilC, nilC]), (1, .arr (ints E) 1 1), (2, .arr (ints st) 2 1), (3, .box [I 0, .sl 1 0 E.length 1 cp, .sl 2 0 st.length 1 none])], 4⟩ =
      some (.exit 0, ⟨[(2, .pt 0 0), (4, .pt 3 0)],
        [(0, .box [I 0, nilC, nilC]), (1, .arr (ints E) 1 1), (2, .arr (ints (st ++ wholeS a r)) 2 1), (3, .box [I 0, .sl 1 0 E.length 1 cp, .sl 2 0 (st ++ wholeS a r).length 1 none])], 4⟩) := by
  intro r
  have hl := hE.1
  induction r with
  | nil =>
    intro i a st cp h1 h2 h3 h4
    have h5 := drop_nil h1
    have h6 : ¬ (i : Int) < E.length := by omega
    rw [lp_eq lp44_6]
    simp (config := { maxSteps := 1000000 }) (disch := omega) only [push_cast, ↓reduceIte, Nat.reduceEqDiff, Nat.reduceAdd, Nat.reduceLT, Nat.reduceLeDiff, Nat.reduceBEq, Nat.reduceMul, Nat.reduceSub, Int.reduceToNat, Int.reduceEq, Int.reduceLT, Int.reduceLE, Int.reduceNeg, Int.reduceAdd, Int.reduceSub, Int.reduceMul, Try.f44, kr44, kp44_6, ow44_6, ty3, ty22, ty27, ty34, h6, wholeS, List.append_nil]
  | cons x r ih =>
    intro i a st cp h1 h2 h3 h4
    obtain ⟨g1, g2, g3⟩ := drop_cons h1
    have g8 : (i : Int) < E.length := by omega
    obtain ⟨e0, e1⟩ := hE.2 x (List.mem_of_getElem? g2)
    obtain ⟨p0, p1⟩ := B4_step (n := i) (by omega) h2 h3 e0 e1
    have p2 := B4_le (i + 1)
    have e : st ++ [a] ++ wholeS (a * x) r = st ++ wholeS a (x :: r) := by simp [wholeS]
    have ih' := ih (i + 1) (a * x) (st ++ [a]) cp g3 p0 p1 (by simp [h4])
    rw [e] at ih'
    simp only [cast1, List.length_append, List.length_cons, List.length_nil, Nat.zero_add, Nat.add_zero, Int.natCast_zero, Int.natCast_add, Int.zero_add, ints_1, ints_0, ] at ih'
    rw [lp_eq lp44_6]
    simp (config := { maxSteps := 1000000 }) (disch := omega) only [push_cast, ↓reduceIte, Nat.reduceEqDiff, Nat.reduceAdd, Nat.reduceLT, Nat.reduceLeDiff, Nat.reduceBEq, Nat.reduceMul, Nat.reduceSub, Int.reduceToNat, Int.reduceEq, Int.reduceLT, Int.reduceLE, Int.reduceNeg, Int.reduceAdd, Int.reduceSub, Int.reduceMul, Try.f44, kr44, kp44_6, ow44_6, ty3, ty22, ty27, ty34, g1, g8, getD_of g2, ih']
theorem r_Whole (b : Bool) (c : Option Nat) (E : List Int) :
    CALL 44 [SL b c E.length (ints E)] = some (.tup [.agg [I 0, .sl 0 0 (wholeE E).length 1 none, .sl 1 0 (wholeT E).length 1 none], I (errE E)], [ints (wholeE E), ints (wholeT E)]) := by
  unfold wholeE wholeT errE
  refine lim_run (fn := Try.f44) fn44 rfl body44 (Nat.le_of_ble_eq_true rfl) ok44 ?_
  by_cases h : okE E
  · have h0 : ¬ sizeQ E < 0 := fun q => size_neg.1 q h
    have h2 := h.1.1
    have hl := rl_Whole6 b c E h.1 E 0 1 [] none rfl (by omega) (by simp [B4]) rfl
    rw [List.nil_append] at hl
    simp only [cast1, List.length_append, List.length_cons, List.length_nil, Nat.zero_add, Nat.add_zero, Int.natCast_zero, Int.natCast_add, Int.zero_add, ints_1, ints_0, ] at hl
    simp (config := { maxSteps := 1000000 }) (disch := omega) only [push_cast, ↓reduceIte, Nat.reduceEqDiff, Nat.reduceAdd, Nat.reduceLT, Nat.reduceLeDiff, Nat.reduceBEq, Nat.reduceMul, Nat.reduceSub, Int.reduceToNat, Int.reduceEq, Int.reduceLT, Int.reduceLE, Int.reduceNeg, Int.reduceAdd, Int.reduceSub, Int.reduceMul, Try.f44, kr44, kp44_6, ow44_6, ty3, ty22, ty27, ty34, r_size, h0, h, hl]
  · have h0 : sizeQ E < 0 := size_neg.2 h
    simp (config := { maxSteps := 1000000 }) (disch := omega) only [push_cast, ↓reduceIte, Nat.reduceEqDiff, Nat.reduceAdd, Nat.reduceLT, Nat.reduceLeDiff, Nat.reduceBEq, Nat.reduceMul, Nat.reduceSub, Int.reduceToNat, Int.reduceEq, Int.reduceLT, Int.reduceLE, Int.reduceNeg, Int.reduceAdd, Int.reduceSub, Int.reduceMul, Try.f44, kr44, kp44_6, ow44_6, ty3, ty22, ty27, ty34, r_size, h0, h]
theorem rl_room3 (q : Bool) (c : Option Nat) (l : List PassQ) (hl : l.length ≤ 8) (hb : ∀ p ∈ l, bdP p) (ho : ∀ p ∈ l, okPs p) : ∀ (r : List PassQ) (i : Nat) (a : Int), l.drop i = r → 0 ≤ a → a ≤ 4000 * (i : Int) →
    lp E0 pr0 42 3 ⟨[(0, PsT q c l), (3, I a), (4, I i)], [], 0⟩ = some (.exit 0, ⟨[(3, I (a + roomQ r))], [], 0⟩) := by
  intro r
  induction r with
  | nil =>
    intro i a h1 h2 h3
    have h5 := drop_nil h1
    have h6 : ¬ (i : Int) < l.length := by omega
    rw [lp_eq lp42_3]
    simp (config := { maxSteps := 1000000 }) (disch := omega) only [push_cast, ↓reduceIte, Nat.reduceEqDiff, Nat.reduceAdd, Nat.reduceLT, Nat.reduceLeDiff, Nat.reduceBEq, Nat.reduceMul, Nat.reduceSub, Int.reduceToNat, Int.reduceEq, Int.reduceLT, Int.reduceLE, Int.reduceNeg, Int.reduceAdd, Int.reduceSub, Int.reduceMul, Try.f42, kr42, kp42_3, ow42_3, ty3, ty4, ty9, ty22, ty23, ty34, ty36, tb4, h6, roomQ, Int.add_zero]
  | cons p r ih =>
    intro i a h1 h2 h3
    obtain ⟨g1, g2, g3⟩ := drop_cons h1
    have g8 : (i : Int) < l.length := by omega
    have hp := hb p (List.mem_of_getElem? g2)
    have hv := r_Size p.1.1 true true none none p.1.2.1 p.1.2.2 hp.1
    have hk := r_packed true true none none p hp (ho p (List.mem_of_getElem? g2)).2
    have e0 := sizeD_bd p.1.1 p.1.2.1 p.1.2.2
    rw [lp_eq lp42_3]
    unfold roomQ szP
    by_cases hx : packedQ p = true
    · have ih' := ih (i + 1) (a + sizeD p.1.1 p.1.2.1 p.1.2.2) g3 (by omega) (by push_cast; omega)
      simp only [cast1, List.length_append, List.length_cons, List.length_nil, Nat.zero_add, Nat.add_zero, Int.natCast_zero, Int.natCast_add, Int.zero_add, ints_1, ints_0, ] at ih'
      simp (config := { maxSteps := 1000000 }) (disch := omega) only [push_cast, ↓reduceIte, Nat.reduceEqDiff, Nat.reduceAdd, Nat.reduceLT, Nat.reduceLeDiff, Nat.reduceBEq, Nat.reduceMul, Nat.reduceSub, Int.reduceToNat, Int.reduceEq, Int.reduceLT, Int.reduceLE, Int.reduceNeg, Int.reduceAdd, Int.reduceSub, Int.reduceMul, Try.f42, kr42, kp42_3, ow42_3, ty3, ty4, ty9, ty22, ty23, ty34, ty36, tb4, g1, g8, ps0 g2, ps1 g2, ps2 g2, ps3 g2, ps4 g2, hv, hk, hx, ih', Int.add_assoc]
    · have ih' := ih (i + 1) a g3 (by omega) (by push_cast; omega)
      simp only [cast1, List.length_append, List.length_cons, List.length_nil, Nat.zero_add, Nat.add_zero, Int.natCast_zero, Int.natCast_add, Int.zero_add, ints_1, ints_0, ] at ih'
      simp (config := { maxSteps := 1000000 }) (disch := omega) only [push_cast, ↓reduceIte, Nat.reduceEqDiff, Nat.reduceAdd, Nat.reduceLT, Nat.reduceLeDiff, Nat.reduceBEq, Nat.reduceMul, Nat.reduceSub, Int.reduceToNat, Int.reduceEq, Int.reduceLT, Int.reduceLE, Int.reduceNeg, Int.reduceAdd, Int.reduceSub, Int.reduceMul, Try.f42, kr42, kp42_3, ow42_3, ty3, ty4, ty9, ty22, ty23, ty34, ty36, tb4, g1, g8, ps0 g2, ps1 g2, ps2 g2, ps3 g2, ps4 g2, hv, hk, hx, ih', Int.zero_add]
theorem r_room (q : Bool) (c : Option Nat) (l : List PassQ) (hl : l.length ≤ 8) (hb : ∀ p ∈ l, bdP p) (ho : ∀ p ∈ l, okPs p) : CALL 42 [PsT q c l] = some (I (roomQ l), []) := by
  have h := rl_room3 q c l hl hb ho l 0 0 rfl (by omega) (by omega)
  simp only [cast1, List.length_append, List.length_cons, List.length_nil, Nat.zero_add, Nat.add_zero, Int.natCast_zero, Int.natCast_add, Int.zero_add, ints_1, ints_0, ] at h
  refine lim_run (fn := Try.f42) fn42 rfl body42 (Nat.le_of_ble_eq_true rfl) ok42 ?_
  simp (config := { maxSteps := 1000000 }) (disch := omega) only [push_cast, ↓reduceIte, Nat.reduceEqDiff, Nat.reduceAdd, Nat.reduceLT, Nat.reduceLeDiff, Nat.reduceBEq, Nat.reduceMul, Nat.reduceSub, Int.reduceToNat, Int.reduceEq, Int.reduceLT, Int.reduceLE, Int.reduceNeg, Int.reduceAdd, Int.reduceSub, Int.reduceMul, Try.f42, kr42, kp42_3, ow42_3, ty3, ty4, ty9, ty22, ty23, ty34, ty36, tb4, h]
theorem rl_Enter6 (q b : Bool) (c cm : Option Nat) (m : List Int) (l : List PassQ) (hm : (m.length : Int) ≤ 16000) (hl : l.length ≤ 8) (hb : ∀ p ∈ l, bdP p) : ∀ (r : List PassQ) (i : Nat), l.drop i = r →
    lp E0 pr0 21 6 ⟨[(0, SL b cm m.length (ints m)), (1, PsT q c l), (7, I i)], [], 0⟩ =
      if errA m.length r = 0 then some (.exit 0, ⟨[(0, SL b cm m.length (ints m)), (1, PsT q c l)], [], 0⟩) else some (.ret, ⟨[(4, nilC), (5, nilC), (6, I (errA m.length r))], [], 0⟩) := by
  intro r
  induction r with
  | nil =>
    intro i h1
    have h5 := drop_nil h1
    have h6 : ¬ (i : Int) < l.length := by omega
    rw [lp_eq lp21_6]
    simp (config := { maxSteps := 1000000 }) (disch := omega) only [push_cast, ↓reduceIte, Nat.reduceEqDiff, Nat.reduceAdd, Nat.reduceLT, Nat.reduceLeDiff, Nat.reduceBEq, Nat.reduceMul, Nat.reduceSub, Int.reduceToNat, Int.reduceEq, Int.reduceLT, Int.reduceLE, Int.reduceNeg, Int.reduceAdd, Int.reduceSub, Int.reduceMul, Try.f21, kr21, kp21_14, kp21_6, ow21_14, ow21_6, ty3, ty4, ty9, ty22, ty23, ty26, ty27, ty34, ty36, tb4, h6, errA]
  | cons p r ih =>
    intro i h1
    obtain ⟨g1, g2, g3⟩ := drop_cons h1
    have g8 : (i : Int) < l.length := by omega
    have ih' := ih (i + 1) g3
    have hp := hb p (List.mem_of_getElem? g2)
    have hv := r_inside p.1.1 b true true cm none none m p.1.2.1 p.1.2.2 hp.1 hm
    simp only [cast1, List.length_append, List.length_cons, List.length_nil, Nat.zero_add, Nat.add_zero, Int.natCast_zero, Int.natCast_add, Int.zero_add, ints_1, ints_0, ] at ih'
    rw [lp_eq lp21_6]
    unfold errA
    by_cases hx : errI m.length p.1.1 p.1.2.1 p.1.2.2 = 0
    · simp (config := { maxSteps := 1000000 }) (disch := omega) only [push_cast, ↓reduceIte, Nat.reduceEqDiff, Nat.reduceAdd, Nat.reduceLT, Nat.reduceLeDiff, Nat.reduceBEq, Nat.reduceMul, Nat.reduceSub, Int.reduceToNat, Int.reduceEq, Int.reduceLT, Int.reduceLE, Int.reduceNeg, Int.reduceAdd, Int.reduceSub, Int.reduceMul, Try.f21, kr21, kp21_14, kp21_6, ow21_14, ow21_6, ty3, ty4, ty9, ty22, ty23, ty26, ty27, ty34, ty36, tb4, g1, g8, ps0 g2, ps1 g2, ps2 g2, ps3 g2, ps4 g2, hv, hx, ih']
    · simp (config := { maxSteps := 1000000 }) (disch := omega) only [push_cast, ↓reduceIte, Nat.reduceEqDiff, Nat.reduceAdd, Nat.reduceLT, Nat.reduceLeDiff, Nat.reduceBEq, Nat.reduceMul, Nat.reduceSub, Int.reduceToNat, Int.reduceEq, Int.reduceLT, Int.reduceLE, Int.reduceNeg, Int.reduceAdd, Int.reduceSub, Int.reduceMul, Try.f21, kr21, kp21_14, kp21_6, ow21_14, ow21_6, ty3, ty4, ty9, ty22, ty23, ty26, ty27, ty34, ty36, tb4, g1, g8, ps0 g2, ps1 g2, ps2 g2, ps3 g2, ps4 g2, hv, hx]
theorem rl_Enter14 (q b : Bool) (c cm : Option Nat) (m : List Int) (l : List PassQ) (hm : m.length ≤ 4000) (hl : l.length ≤ 8) (hb : ∀ p ∈ l, bdP p) (ho : ∀ p ∈ l, okPs p) : ∀ (r : List PassQ) (i : Nat) (out : List Int) (av : List DscQ), l.drop i = r → av.length = i → (out.length : Int) ≤ 4000 + 4000 * (i : Int) →
    lp E0 pr0 21 14 ⟨[(0, SL b cm m.length (ints m)), (1, PsT q c l), (9, .sl 0 0 out.length 1 none), (10, .sl 1 0 av.length 3 none), (11, I i)], [(0, .arr (ints out) 0 1), (1, .arr (av.flatMap dscC) 1 1)], 2⟩ =
      some (.exit 2, ⟨[(9, .sl 0 0 (entQ m r (out, av)).1.length 1 none), (10, .sl 1 0 (entQ m r (out, av)).2.length 3 none)], [(0, .arr (ints (entQ m r (out, av)).1) 0 1), (1, .arr ((entQ m r (out, av)).2.flatMap dscC) 1 1)], 2⟩) := by
  intro r
  induction r with
  | nil =>
    intro i out av h1 h2 h3
    have h5 := drop_nil h1
    have h6 : ¬ (i : Int) < l.length := by omega
    rw [lp_eq lp21_14]
    simp (config := { maxSteps := 1000000 }) (disch := omega) only [push_cast, ↓reduceIte, Nat.reduceEqDiff, Nat.reduceAdd, Nat.reduceLT, Nat.reduceLeDiff, Nat.reduceBEq, Nat.reduceMul, Nat.reduceSub, Int.reduceToNat, Int.reduceEq, Int.reduceLT, Int.reduceLE, Int.reduceNeg, Int.reduceAdd, Int.reduceSub, Int.reduceMul, Try.f21, kr21, kp21_14, kp21_6, ow21_14, ow21_6, ty3, ty4, ty9, ty22, ty23, ty26, ty27, ty34, ty36, tb4, h6, entQ]
  | cons p r ih =>
    intro i out av h1 h2 h3
    obtain ⟨g1, g2, g3⟩ := drop_cons h1
    have g8 : (i : Int) < l.length := by omega
    have hp := hb p (List.mem_of_getElem? g2)
    have hq := (ho p (List.mem_of_getElem? g2)).1
    have x1 := hq.1.1
    have x2 := hq.2.2.1
    have hc := r_Copy p.1.1 true true none none p.1.2.1 p.1.2.2 (by omega) (by omega)
    have hk := r_packed true true none none p hp (ho p (List.mem_of_getElem? g2)).2
    have fl := flat_len dscC_len av
    rw [lp_eq lp21_14]
    unfold entQ
    by_cases hx : packedQ p = true
    · have hw := r_Whole true none p.1.2.1
      have hpk := r_Pack p.1.1 b true true cm none none m p.1.2.1 p.1.2.2 hp.1 (by omega)
      have n1 := packQ_len m p.1.1 p.1.2.1 p.1.2.2
      have ih' := ih (i + 1) (out ++ packP m p) (av ++ [((out.length : Int), wholeE p.1.2.1, wholeT p.1.2.1)]) g3 (by simp [h2]) (by unfold packP; push_cast [List.length_append]; omega)
      have e : (av ++ [((out.length : Int), wholeE p.1.2.1, wholeT p.1.2.1)]).flatMap dscC = av.flatMap dscC ++ [CI out.length, .s none (wholeE p.1.2.1).length (ints (wholeE p.1.2.1)), .s none (wholeT p.1.2.1).length (ints (wholeT p.1.2.1))] := by simp [dscC]
      rw [e] at ih'
      unfold packP at ih' ⊢
      simp only [cast1, List.length_append, List.length_cons, List.length_nil, Nat.zero_add, Nat.add_zero, Int.natCast_zero, Int.natCast_add, Int.zero_add, ints_1, ints_0, ] at ih'
      rw [if_pos hx]
      simp (config := { maxSteps := 1000000 }) (disch := omega) only [push_cast, ↓reduceIte, Nat.reduceEqDiff, Nat.reduceAdd, Nat.reduceLT, Nat.reduceLeDiff, Nat.reduceBEq, Nat.reduceMul, Nat.reduceSub, Int.reduceToNat, Int.reduceEq, Int.reduceLT, Int.reduceLE, Int.reduceNeg, Int.reduceAdd, Int.reduceSub, Int.reduceMul, Try.f21, kr21, kp21_14, kp21_6, ow21_14, ow21_6, ty3, ty4, ty9, ty22, ty23, ty26, ty27, ty34, ty36, tb4, g1, g8, ps0 g2, ps1 g2, ps2 g2, ps3 g2, ps4 g2, hc, hk, hw, hpk, hx, fl, ih']
    · have ih' := ih (i + 1) out (av ++ [p.1]) g3 (by simp [h2]) (by push_cast; omega)
      have e : (av ++ [p.1]).flatMap dscC = av.flatMap dscC ++ [CI p.1.1, .s none p.1.2.1.length (ints p.1.2.1), .s none p.1.2.2.length (ints p.1.2.2)] := by simp [dscC]
      rw [e] at ih'
      simp only [cast1, List.length_append, List.length_cons, List.length_nil, Nat.zero_add, Nat.add_zero, Int.natCast_zero, Int.natCast_add, Int.zero_add, ints_1, ints_0, ] at ih'
      rw [if_neg hx]
      simp (config := { maxSteps := 1000000 }) (disch := omega) only [push_cast, ↓reduceIte, Nat.reduceEqDiff, Nat.reduceAdd, Nat.reduceLT, Nat.reduceLeDiff, Nat.reduceBEq, Nat.reduceMul, Nat.reduceSub, Int.reduceToNat, Int.reduceEq, Int.reduceLT, Int.reduceLE, Int.reduceNeg, Int.reduceAdd, Int.reduceSub, Int.reduceMul, Try.f21, kr21, kp21_14, kp21_6, ow21_14, ow21_6, ty3, ty4, ty9, ty22, ty23, ty26, ty27, ty34, ty36, tb4, g1, g8, ps0 g2, ps1 g2, ps2 g2, ps3 g2, ps4 g2, hc, hk, hx, fl, ih']
theorem r_Enter (q b : Bool) (c cm : Option Nat) (m : List Int) (l : List PassQ) (hm : (m.length : Int) ≤ 9223372036854775806) (hlb : (l.length : Int) ≤ 9223372036854775806) (hb : ∀ p ∈ l, bdP p) :
    CALL 21 [SL b cm m.length (ints m), PsT q c l] = some (.tup [.sl 0 0 (entR m l).1.length 1 none, .sl 1 0 (entR m l).2.length 3 none, I (errEnt m l)], [ints (entR m l).1, (entR m l).2.flatMap dscC]) := by
  have h1 := r_isPasses q c l hlb hb
  have h2 := r_Small b cm m
  unfold entR errEnt
  refine lim_run (fn := Try.f21) fn21 rfl body21 (Nat.le_of_ble_eq_true rfl) ok21 ?_
  by_cases hn : 4000 < (m.length : Int)
  · rw [decide_eq_false (p := (m.length : Int) ≤ 4000) (by omega)] at h2
    by_cases ho : okAll l
    · simp (config := { maxSteps := 1000000 }) (disch := omega) only [push_cast, ↓reduceIte, Nat.reduceEqDiff, Nat.reduceAdd, Nat.reduceLT, Nat.reduceLeDiff, Nat.reduceBEq, Nat.reduceMul, Nat.reduceSub, Int.reduceToNat, Int.reduceEq, Int.reduceLT, Int.reduceLE, Int.reduceNeg, Int.reduceAdd, Int.reduceSub, Int.reduceMul, Try.f21, kr21, kp21_14, kp21_6, ow21_14, ow21_6, ty3, ty4, ty9, ty22, ty23, ty26, ty27, ty34, ty36, tb4, List.flatMap_nil, hn, h1, h2, ho]
    · simp (config := { maxSteps := 1000000 }) (disch := omega) only [push_cast, ↓reduceIte, Nat.reduceEqDiff, Nat.reduceAdd, Nat.reduceLT, Nat.reduceLeDiff, Nat.reduceBEq, Nat.reduceMul, Nat.reduceSub, Int.reduceToNat, Int.reduceEq, Int.reduceLT, Int.reduceLE, Int.reduceNeg, Int.reduceAdd, Int.reduceSub, Int.reduceMul, Try.f21, kr21, kp21_14, kp21_6, ow21_14, ow21_6, ty3, ty4, ty9, ty22, ty23, ty26, ty27, ty34, ty36, tb4, List.flatMap_nil, hn, h1, h2, ho]
  · rw [decide_eq_true (p := (m.length : Int) ≤ 4000) (by omega)] at h2
    by_cases ho : okAll l
    · have h0 := ho.1
      have hr := roomQ_bd l
      have h3 := r_room q c l (by omega) hb ho.2
      by_cases hr2 : 16000 < (m.length : Int) + roomQ l
      · simp (config := { maxSteps := 1000000 }) (disch := omega) only [push_cast, ↓reduceIte, Nat.reduceEqDiff, Nat.reduceAdd, Nat.reduceLT, Nat.reduceLeDiff, Nat.reduceBEq, Nat.reduceMul, Nat.reduceSub, Int.reduceToNat, Int.reduceEq, Int.reduceLT, Int.reduceLE, Int.reduceNeg, Int.reduceAdd, Int.reduceSub, Int.reduceMul, Try.f21, kr21, kp21_14, kp21_6, ow21_14, ow21_6, ty3, ty4, ty9, ty22, ty23, ty26, ty27, ty34, ty36, tb4, List.flatMap_nil, hn, ho, h1, h2, h3, hr2]
      · have hl := rl_Enter6 q b c cm m l (by omega) (by omega) hb l 0 rfl
        simp only [cast1, List.length_append, List.length_cons, List.length_nil, Nat.zero_add, Nat.add_zero, Int.natCast_zero, Int.natCast_add, Int.zero_add, ints_1, ints_0, ] at hl
        by_cases he : errA m.length l = 0
        · rw [if_pos he] at hl
          have hl2 := rl_Enter14 q b c cm m l (by omega) (by omega) hb ho.2 l 0 m [] rfl rfl (by push_cast; omega)
          rw [List.flatMap_nil] at hl2
          simp only [cast1, List.length_append, List.length_cons, List.length_nil, Nat.zero_add, Nat.add_zero, Int.natCast_zero, Int.natCast_add, Int.zero_add, ints_1, ints_0, ] at hl2
          have fl := flat_len dscC_len (entQ m l (m, [])).2
          simp (config := { maxSteps := 1000000 }) (disch := omega) only [push_cast, ↓reduceIte, Nat.reduceEqDiff, Nat.reduceAdd, Nat.reduceLT, Nat.reduceLeDiff, Nat.reduceBEq, Nat.reduceMul, Nat.reduceSub, Int.reduceToNat, Int.reduceEq, Int.reduceLT, Int.reduceLE, Int.reduceNeg, Int.reduceAdd, Int.reduceSub, Int.reduceMul, Try.f21, kr21, kp21_14, kp21_6, ow21_14, ow21_6, ty3, ty4, ty9, ty22, ty23, ty26, ty27, ty34, ty36, tb4, List.flatMap_nil, hn, ho, h1, h2, h3, hl, hr2, he, hl2, fl]
        · rw [if_neg he] at hl
          simp (config := { maxSteps := 1000000 }) (disch := omega) only [push_cast, ↓reduceIte, Nat.reduceEqDiff, Nat.reduceAdd, Nat.reduceLT, Nat.reduceLeDiff, Nat.reduceBEq, Nat.reduceMul, Nat.reduceSub, Int.reduceToNat, Int.reduceEq, Int.reduceLT, Int.reduceLE, Int.reduceNeg, Int.reduceAdd, Int.reduceSub, Int.reduceMul, Try.f21, kr21, kp21_14, kp21_6, ow21_14, ow21_6, ty3, ty4, ty9, ty22, ty23, ty26, ty27, ty34, ty36, tb4, List.flatMap_nil, hn, ho, h1, h2, h3, hl, hr2, he]
    · simp (config := { maxSteps := 1000000 }) (disch := omega) only [push_cast, ↓reduceIte, Nat.reduceEqDiff, Nat.reduceAdd, Nat.reduceLT, Nat.reduceLeDiff, Nat.reduceBEq, Nat.reduceMul, Nat.reduceSub, Int.reduceToNat, Int.reduceEq, Int.reduceLT, Int.reduceLE, Int.reduceNeg, Int.reduceAdd, Int.reduceSub, Int.reduceMul, Try.f21, kr21, kp21_14, kp21_6, ow21_14, ow21_6, ty3, ty4, ty9, ty22, ty23, ty26, ty27, ty34, ty36, tb4, List.flatMap_nil, hn, ho, h1]
end Go.Proofs.Ytochkebkfoophaa.Tev
