/- The document's Enter. -/
import Derived.Test.YtochkebkfoophaaC24d
import Derived.Test.YtochkebkfoophaaQWh
namespace Go.Proofs.Ytochkebkfoophaa.Tev
open Go Go.RowKit Go.Proofs Go.Proofs.Ytochkebkfoophaa.Q
set_option linter.unusedSectionVars false
set_option maxRecDepth 100000
set_option maxHeartbeats 0
set_option linter.unusedSimpArgs false
set_option linter.unusedVariables false
theorem rl_Whole6 (b : Bool) (c : Option Nat) (E : List Int) (hE : exts E) : ∀ (r : List Int) (i : Nat) (a : Int) (st : List Int) (cp : Option Nat), E.drop i = r → 0 ≤ a → a ≤ B4 i → st.length = i →
    lp E0 pr0 44 6 ⟨[(0, SL b c E.length (ints E)), (2, .pt 0 0), (4, .pt 3 0), (5, I a), (6, I i)],
        [(0, .box [I 0, nilC, nilC]), (1, .arr (ints E) 1 1), (2, .arr (ints st) 2 1), (3, .box [I 0, .sl 1 0 E.length 1 cp, .sl 2 0 st.length 1 none])], 4⟩ =
      some (.exit 0, ⟨[(2, .pt 0 0), (4, .pt 3 0)],
        [(0, .box [I 0, nilC, nilC]), (1, .arr (ints E) 1 1), (2, .arr (ints (st ++ wholeS a r)) 2 1), (3, .box [I 0, .sl 1 0 E.length 1 cp, .sl 2 0 (st ++ wholeS a r).length 1 none])], 4⟩) := by
  intro r
  have hl := hE.1
  induction r with
  | nil =>
    intro i a st cp h1 h2 h3 h4
    have h5 := drop_nil h1
    have h6 : ¬ (i : Int) < E.length := by omega
    rw [lp_eq lp44_6]
    simp (config := { maxSteps := 1000000 }) (disch := omega) only [push_cast, ↓reduceIte, Nat.reduceEqDiff, Nat.reduceAdd, Nat.reduceLT, Nat.reduceLeDiff, Nat.reduceBEq, Nat.reduceMul, Nat.reduceSub, Int.reduceToNat, Int.reduceEq, Int.reduceLT, Int.reduceLE, Int.reduceNeg, Int.reduceAdd, Int.reduceSub, Int.reduceMul, Try.f44, kr44, kp44_6, ow44_6, ty3, ty22, ty27, ty34, h6, wholeS, List.append_nil]
  | cons x r ih =>
    intro i a st cp h1 h2 h3 h4
    obtain ⟨g1, g2, g3⟩ := drop_cons h1
    have g8 : (i : Int) < E.length := by omega
    obtain ⟨e0, e1⟩ := hE.2 x (List.mem_of_getElem? g2)
    obtain ⟨p0, p1⟩ := B4_step (n := i) (by omega) h2 h3 e0 e1
    have p2 := B4_le (i + 1)
    have e : st ++ [a] ++ wholeS (a * x) r = st ++ wholeS a (x :: r) := by simp [wholeS]
    have ih' := ih (i + 1) (a * x) (st ++ [a]) cp g3 p0 p1 (by simp [h4])
    rw [e] at ih'
    simp only [cast1, List.length_append, List.length_cons, List.length_nil, Nat.zero_add, Nat.add_zero, Int.natCast_zero, Int.natCast_add, Int.zero_add, ints_1, ints_0, ] at ih'
    rw [lp_eq lp44_6]
    simp (config := { maxSteps := 1000000 }) (disch := omega) only [push_cast, ↓reduceIte, Nat.reduceEqDiff, Nat.reduceAdd, Nat.reduceLT, Nat.reduceLeDiff, Nat.reduceBEq, Nat.reduceMul, Nat.reduceSub, Int.reduceToNat, Int.reduceEq, Int.reduceLT, Int.reduceLE, Int.reduceNeg, Int.reduceAdd, Int.reduceSub, Int.reduceMul, Try.f44, kr44, kp44_6, ow44_6, ty3, ty22, ty27, ty34, g1, g8, getD_of g2, ih']
theorem r_Whole (b : Bool) (c : Option Nat) (E : List Int) :
    CALL 44 [SL b c E.length (ints E)] = some (.tup [.agg [I 0, .sl 0 0 (wholeE E).length 1 none, .sl 1 0 (wholeT E).length 1 none], I (errE E)], [ints (wholeE E), ints (wholeT E)]) := by
  unfold wholeE wholeT errE
  refine lim_run (fn := Try.f44) fn44 rfl body44 (Nat.le_of_ble_eq_true rfl) ok44 ?_
  by_cases h : okE E
  · have h0 : ¬ sizeQ E < 0 := fun q => size_neg.1 q h
    have h2 := h.1.1
    have hl := rl_Whole6 b c E h.1 E 0 1 [] none rfl (by omega) (by simp [B4]) rfl
    rw [List.nil_append] at hl
    simp only [cast1, List.length_append, List.length_cons, List.length_nil, Nat.zero_add, Nat.add_zero, Int.natCast_zero, Int.natCast_add, Int.zero_add, ints_1, ints_0, ] at hl
    simp (config := { maxSteps := 1000000 }) (disch := omega) only [push_cast, ↓reduceIte, Nat.reduceEqDiff, Nat.reduceAdd, Nat.reduceLT, Nat.reduceLeDiff, Nat.reduceBEq, Nat.reduceMul, Nat.reduceSub, Int.reduceToNat, Int.reduceEq, Int.reduceLT, Int.reduceLE, Int.reduceNeg, Int.reduceAdd, Int.reduceSub, Int.reduceMul, Try.f44, kr44, kp44_6, ow44_6, ty3, ty22, ty27, ty34, r_size, h0, h, hl]
  · have h0 : sizeQ E < 0 := size_neg.2 h
    simp (config := { maxSteps := 1000000 }) (disch := omega) only [push_cast, ↓reduceIte, Nat.reduceEqDiff, Nat.reduceAdd, Nat.reduceLT, Nat.reduceLeDiff, Nat.reduceBEq, Nat.reduceMul, Nat.reduceSub, Int.reduceToNat, Int.reduceEq, Int.reduceLT, Int.reduceLE, Int.reduceNeg, Int.reduceAdd, Int.reduceSub, Int.reduceMul, Try.f44, kr44, kp44_6, ow44_6, ty3, ty22, ty27, ty34, r_size, h0, h]
theorem rl_room3 (q : Bool) (c : Option Nat) (l : List PassQ) (hl : l.length ≤ 8) (hb : ∀ p ∈ l, bdP p) (ho : ∀ p ∈ l, okPs p) : ∀ (r : List PassQ) (i : Nat) (a : Int), l.drop i = r → 0 ≤ a → a ≤ 4000 * (i : Int) →
    lp E0 pr0 42 3 ⟨[(0, PsT q c l), (3, I a), (4, I i)], [], 0⟩ = some (.exit 0, ⟨[(3, I (a + roomQ r))], [], 0⟩) := by
  intro r
  induction r with
  | nil =>
    intro i a h1 h2 h3
    have h5 := drop_nil h1
    have h6 : ¬ (i : Int) < l.length := by omega
    rw [lp_eq lp42_3]
    simp (config := { maxSteps := 1000000 }) (disch := omega) only [push_cast, ↓reduceIte, Nat.reduceEqDiff, Nat.reduceAdd, Nat.reduceLT, Nat.reduceLeDiff, Nat.reduceBEq, Nat.reduceMul, Nat.reduceSub, Int.reduceToNat, Int.reduceEq, Int.reduceLT, Int.reduceLE, Int.reduceNeg, Int.reduceAdd, Int.reduceSub, Int.reduceMul, Try.f42, kr42, kp42_3, ow42_3, ty3, ty4, ty9, ty22, ty23, ty34, ty36, tb4, h6, roomQ, Int.add_zero]
  | cons p r ih =>
    intro i a h1 h2 h3
    obtain ⟨g1, g2, g3⟩ := drop_cons h1
    have g8 : (i : Int) < l.length := by omega
    have hp := hb p (List.mem_of_getElem? g2)
    have hv := r_Size p.1.1 true true none none p.1.2.1 p.1.2.2 hp.1
    have hk := r_packed true true none none p hp (ho p (List.mem_of_getElem? g2)).2
    have e0 := sizeD_bd p.1.1 p.1.2.1 p.1.2.2
    rw [lp_eq lp42_3]
    unfold roomQ szP
    by_cases hx : packedQ p = true
    · have ih' := ih (i + 1) (a + sizeD p.1.1 p.1.2.1 p.1.2.2) g3 (by omega) (by push_cast; omega)
      simp only [cast1, List.length_append, List.length_cons, List.length_nil, Nat.zero_add, Nat.add_zero, Int.natCast_zero, Int.natCast_add, Int.zero_add, ints_1, ints_0, ] at ih'
      simp (config := { maxSteps := 1000000 }) (disch := omega) only [push_cast, ↓reduceIte, Nat.reduceEqDiff, Nat.reduceAdd, Nat.reduceLT, Nat.reduceLeDiff, Nat.reduceBEq, Nat.reduceMul, Nat.reduceSub, Int.reduceToNat, Int.reduceEq, Int.reduceLT, Int.reduceLE, Int.reduceNeg, Int.reduceAdd, Int.reduceSub, Int.reduceMul, Try.f42, kr42, kp42_3, ow42_3, ty3, ty4, ty9, ty22, ty23, ty34, ty36, tb4, g1, g8, ps0 g2, ps1 g2, ps2 g2, ps3 g2, ps4 g2, hv, hk, hx, ih', Int.add_assoc]
    · have ih' := ih (i + 1) a g3 (by omega) (by push_cast; omega)
      simp only [cast1, List.length_append, List.length_cons, List.length_nil, Nat.zero_add, Nat.add_zero, Int.natCast_zero, Int.natCast_add, Int.zero_add, ints_1, ints_0, ] at ih'
      simp (config := { maxSteps := 1000000 }) (disch := omega) only [push_cast, ↓reduceIte, Nat.reduceEqDiff, Nat.reduceAdd, Nat.reduceLT, Nat.reduceLeDiff, Nat.reduceBEq, Nat.reduceMul, Nat.reduceSub, Int.reduceToNat, Int.reduceEq, Int.reduceLT, Int.reduceLE, Int.reduceNeg, Int.reduceAdd, Int.reduceSub, Int.reduceMul, Try.f42, kr42, kp42_3, ow42_3, ty3, ty4, ty9, ty22, ty23, ty34, ty36, tb4, g1, g8, ps0 g2, ps1 g2, ps2 g2, ps3 g2, ps4 g2, hv, hk, hx, ih', Int.zero_add]
theorem r_room (q : Bool) (c : Option Nat) (l : List PassQ) (hl : l.length ≤ 8) (hb : ∀ p ∈ l, bdP p) (ho : ∀ p ∈ l, okPs p) : CALL 42 [PsT q c l] = some (I (roomQ l), []) := by
  have h := rl_room3 q c l hl hb ho l 0 0 rfl (by omega) (by omega)
  simp only [cast1, List.length_append, List.length_cons, List.length_nil, Nat.zero_add, Nat.add_zero, Int.natCast_zero, Int.natCast_add, Int.zero_add, ints_1, ints_0, ] at h
  refine lim_run (fn := Try.f42) fn42 rfl body42 (Nat.le_of_ble_eq_true rfl) ok42 ?_
  simp (config := { maxSteps := 1000000 }) (disch := omega) only [push_cast, ↓reduceIte, Nat.reduceEqDiff, Nat.reduceAdd, Nat.reduceLT, Nat.reduceLeDiff, Nat.reduceBEq, Nat.reduceMul, Nat.reduceSub, Int.reduceToNat, Int.reduceEq, Int.reduceLT, Int.reduceLE, Int.reduceNeg, Int.reduceAdd, Int.reduceSub, Int.reduceMul, Try.f42, kr42, kp42_3, ow42_3, ty3, ty4, ty9, ty22, ty23, ty34, ty36, tb4, h]
theorem rl_Enter6 (q b : Bool) (c cm : Option Nat) (m : List Int) (l : List PassQ) (hm : (m.length : Int) ≤ 16000) (hl : l.length ≤ 8) (hb : ∀ p ∈ l, bdP p) : ∀ (r : List PassQ) (i : Nat), l.drop i = r →
    lp E0 pr0 21 6 ⟨[(0, SL b cm m.length (ints m)), (1, PsT q c l), (7, I i)], [], 0⟩ =
      if errA m.length r = 0 then some (.exit 0, ⟨[(0, SL b cm m.length (ints m)), (1, PsT q c l)], [], 0⟩) else some (.ret, ⟨[(4, nilC), (5, nilC), (6, I (errA m.length r))], [], 0⟩) := by
  intro r
  induction r with
  | nil =>
    intro i h1
    have h5 := drop_nil h1
    have h6 : ¬ (i : Int) < l.length := by omega
    rw [lp_eq lp21_6]
    simp (config := { maxSteps := 1000000 }) (disch := omega) only [push_cast, ↓reduceIte, Nat.reduceEqDiff, Nat.reduceAdd, Nat.reduceLT, Nat.reduceLeDiff, Nat.reduceBEq, Nat.reduceMul, Nat.reduceSub, Int.reduceToNat, Int.reduceEq, Int.reduceLT, Int.reduceLE, Int.reduceNeg, Int.reduceAdd, Int.reduceSub, Int.reduceMul, Try.f21, kr21, kp21_14, kp21_6, ow21_14, ow21_6, ty3, ty4, ty9, ty22, ty23, ty26, ty27, ty34, ty36, tb4, h6, errA]
  | cons p r ih =>
    intro i h1
    obtain ⟨g1, g2, g3⟩ := drop_cons h1
    have g8 : (i : Int) < l.length := by omega
    have ih' := ih (i + 1) g3
    have hp := hb p (List.mem_of_getElem? g2)
    have hv := r_inside p.1.1 b true true cm none none m p.1.2.1 p.1.2.2 hp.1 hm
    simp only [cast1, List.length_append, List.length_cons, List.length_nil, Nat.zero_add, Nat.add_zero, Int.natCast_zero, Int.natCast_add, Int.zero_add, ints_1, ints_0, ] at ih'
    rw [lp_eq lp21_6]
    unfold errA
    by_cases hx : errI m.length p.1.1 p.1.2.1 p.1.2.2 = 0
    · simp (config := { maxSteps := 1000000 }) (disch := omega) only [push_cast, ↓reduceIte, Nat.reduceEqDiff, Nat.reduceAdd, Nat.reduceLT, Nat.reduceLeDiff, Nat.reduceBEq, Nat.reduceMul, Nat.reduceSub, Int.reduceToNat, Int.reduceEq, Int.reduceLT, Int.reduceLE, Int.reduceNeg, Int.reduceAdd, Int.reduceSub, Int.reduceMul, Try.f21, kr21, kp21_14, kp21_6, ow21_14, ow21_6, ty3, ty4, ty9, ty22, ty23, ty26, ty27, ty34, ty36, tb4, g1, g8, ps0 g2, ps1 g2, ps2 g2, ps3 g2, ps4 g2, hv, hx, ih']
    · simp (config := { maxSteps := 1000000 }) (disch := omega) only [push_cast, ↓reduceIte, Nat.reduceEqDiff, Nat.reduceAdd, Nat.reduceLT, Nat.reduceLeDiff, Nat.reduceBEq, Nat.reduceMul, Nat.reduceSub, Int.reduceToNat, Int.reduceEq, Int.reduceLT, Int.reduceLE, Int.reduceNeg, Int.reduceAdd, Int.reduceSub, Int.reduceMul, Try.f21, kr21, kp21_14, kp21_6, ow21_14, ow21_6, ty3, ty4, ty9, ty22, ty23, ty26, ty27, ty34, ty36, tb4, g1, g8, ps0 g2, ps1 g2, ps2 g2, ps3 g2, ps4 g2, hv, hx]
theorem rl_Enter14 (q b : Bool) (c cm : Option Nat) (m : List Int) (l : List PassQ) (hm : m.length ≤ 4000) (hl : l.length ≤ 8) (hb : ∀ p ∈ l, bdP p) (ho : ∀ p ∈ l, okPs p) : ∀ (r : List PassQ) (i : Nat) (out : List Int) (av : List DscQ), l.drop i = r → av.length = i → (out.length : Int) ≤ 4000 + 4000 * (i : Int) →
    lp E0 pr0 21 14 ⟨[(0, SL b cm m.length (ints m)), (1, PsT q c l), (9, .sl 0 0 out.length 1 none), (10, .sl 1 0 av.length 3 none), (11, I i)], [(0, .arr (ints out) 0 1), (1, .arr (av.flatMap dscC) 1 1)], 2⟩ =
      some (.exit 2, ⟨[(9, .sl 0 0 (entQ m r (out, av)).1.length 1 none), (10, .sl 1 0 (entQ m r (out, av)).2.length 3 none)], [(0, .arr (ints (entQ m r (out, av)).1) 0 1), (1, .arr ((entQ m r (out, av)).2.flatMap dscC) 1 1)], 2⟩) := by
  intro r
  induction r with
  | nil =>
    intro i out av h1 h2 h3
    have h5 := drop_nil h1
    have h6 : ¬ (i : Int) < l.length := by omega
    rw [lp_eq lp21_14]
    simp (config := { maxSteps := 1000000 }) (disch := omega) only [push_cast, ↓reduceIte, Nat.reduceEqDiff, Nat.reduceAdd, Nat.reduceLT, Nat.reduceLeDiff, Nat.reduceBEq, Nat.reduceMul, Nat.reduceSub, Int.reduceToNat, Int.reduceEq, Int.reduceLT, Int.reduceLE, Int.reduceNeg, Int.reduceAdd, Int.reduceSub, Int.reduceMul, Try.f21, kr21, kp21_14, kp21_6, ow21_14, ow21_6, ty3, ty4, ty9, ty22, ty23, ty26, ty27, ty34, ty36, tb4, h6, entQ]
  | cons p r ih =>
    intro i out av h1 h2 h3
    obtain ⟨g1, g2, g3⟩ := drop_cons h1
    have g8 : (i : Int) < l.length := by omega
    have hp := hb p (List.mem_of_getElem? g2)
    have hq := (ho p (List.mem_of_getElem? g2)).1
    have x1 := hq.1.1
    have x2 := hq.2.2.1
    have hc := r_Copy p.1.1 true true none none p.1.2.1 p.1.2.2 (by omega) (by omega)
    have hk := r_packed true true none none p hp (ho p (List.mem_of_getElem? g2)).2
    have fl := flat_len dscC_len av
    rw [lp_eq lp21_14]
    unfold entQ
    by_cases hx : packedQ p = true
    · have hw := r_Whole true none p.1.2.1
      have hpk := r_Pack p.1.1 b true true cm none none m p.1.2.1 p.1.2.2 hp.1 (by omega)
      have n1 := packQ_len m p.1.1 p.1.2.1 p.1.2.2
      have ih' := ih (i + 1) (out ++ packP m p) (av ++ [((out.length : Int), wholeE p.1.2.1, wholeT p.1.2.1)]) g3 (by simp [h2]) (by unfold packP; push_cast [List.length_append]; omega)
      have e : (av ++ [((out.length : Int), wholeE p.1.2.1, wholeT p.1.2.1)]).flatMap dscC = av.flatMap dscC ++ [CI out.length, .s none (wholeE p.1.2.1).length (ints (wholeE p.1.2.1)), .s none (wholeT p.1.2.1).length (ints (wholeT p.1.2.1))] := by simp [dscC]
      rw [e] at ih'
      unfold packP at ih' ⊢
      simp only [cast1, List.length_append, List.length_cons, List.length_nil, Nat.zero_add, Nat.add_zero, Int.natCast_zero, Int.natCast_add, Int.zero_add, ints_1, ints_0, ] at ih'
      rw [if_pos hx]
      simp (config := { maxSteps := 1000000 }) (disch := omega) only [push_cast, ↓reduceIte, Nat.reduceEqDiff, Nat.reduceAdd, Nat.reduceLT, Nat.reduceLeDiff, Nat.reduceBEq, Nat.reduceMul, Nat.reduceSub, Int.reduceToNat, Int.reduceEq, Int.reduceLT, Int.reduceLE, Int.reduceNeg, Int.reduceAdd, Int.reduceSub, Int.reduceMul, Try.f21, kr21, kp21_14, kp21_6, ow21_14, ow21_6, ty3, ty4, ty9, ty22, ty23, ty26, ty27, ty34, ty36, tb4, g1, g8, ps0 g2, ps1 g2, ps2 g2, ps3 g2, ps4 g2, hc, hk, hw, hpk, hx, fl, ih']
    · have ih' := ih (i + 1) out (av ++ [p.1]) g3 (by simp [h2]) (by push_cast; omega)
      have e : (av ++ [p.1]).flatMap dscC = av.flatMap dscC ++ [CI p.1.1, .s none p.1.2.1.length (ints p.1.2.1), .s none p.1.2.2.length (ints p.1.2.2)] := by simp [dscC]
      rw [e] at ih'
      simp only [cast1, List.length_append, List.length_cons, List.length_nil, Nat.zero_add, Nat.add_zero, Int.natCast_zero, Int.natCast_add, Int.zero_add, ints_1, ints_0, ] at ih'
      rw [if_neg hx]
      simp (config := { maxSteps := 1000000 }) (disch := omega) only [push_cast, ↓reduceIte, Nat.reduceEqDiff, Nat.reduceAdd, Nat.reduceLT, Nat.reduceLeDiff, Nat.reduceBEq, Nat.reduceMul, Nat.reduceSub, Int.reduceToNat, Int.reduceEq, Int.reduceLT, Int.reduceLE, Int.reduceNeg, Int.reduceAdd, Int.reduceSub, Int.reduceMul, Try.f21, kr21, kp21_14, kp21_6, ow21_14, ow21_6, ty3, ty4, ty9, ty22, ty23, ty26, ty27, ty34, ty36, tb4, g1, g8, ps0 g2, ps1 g2, ps2 g2, ps3 g2, ps4 g2, hc, hk, hx, fl, ih']
theorem r_Enter (q b : Bool) (c cm : Option Nat) (m : List Int) (l : List PassQ) (hm : (m.length : Int) ≤ 9223372036854775806) (hlb : (l.length : Int) ≤ 9223372036854775806) (hb : ∀ p ∈ l, bdP p) :
    CALL 21 [SL b cm m.length (ints m), PsT q c l] = some (.tup [.sl 0 0 (entR m l).1.length 1 none, .sl 1 0 (entR m l).2.length 3 none, I (errEnt m l)], [ints (entR m l).1, (entR m l).2.flatMap dscC]) := by
  have h1 := r_isPasses q c l hlb hb
  have h2 := r_Small b cm m
  unfold entR errEnt
  refine lim_run (fn := Try.f21) fn21 rfl body21 (Nat.le_of_ble_eq_true rfl) ok21 ?_
  by_cases hn : 4000 < (m.length : Int)
  · rw [decide_eq_false (p := (m.length : Int) ≤ 4000) (by omega)] at h2
    by_cases ho : okAll l
    · simp (config := { maxSteps := 1000000 }) (disch := omega) only [push_cast, ↓reduceIte, Nat.reduceEqDiff, Nat.reduceAdd, Nat.reduceLT, Nat.reduceLeDiff, Nat.reduceBEq, Nat.reduceMul, Nat.reduceSub, Int.reduceToNat, Int.reduceEq, Int.reduceLT, Int.reduceLE, Int.reduceNeg, Int.reduceAdd, Int.reduceSub, Int.reduceMul, Try.f21, kr21, kp21_14, kp21_6, ow21_14, ow21_6, ty3, ty4, ty9, ty22, ty23, ty26, ty27, ty34, ty36, tb4, List.flatMap_nil, hn, h1, h2, ho]
    · simp (config := { maxSteps := 1000000 }) (disch := omega) only [push_cast, ↓reduceIte, Nat.reduceEqDiff, Nat.reduceAdd, Nat.reduceLT, Nat.reduceLeDiff, Nat.reduceBEq, Nat.reduceMul, Nat.reduceSub, Int.reduceToNat, Int.reduceEq, Int.reduceLT, Int.reduceLE, Int.reduceNeg, Int.reduceAdd, Int.reduceSub, Int.reduceMul, Try.f21, kr21, kp21_14, kp21_6, ow21_14, ow21_6, ty3, ty4, ty9, ty22, ty23, ty26, ty27, ty34, ty36, tb4, List.flatMap_nil, hn, h1, h2, ho]
  · rw [decide_eq_true (p := (m.length : Int) ≤ 4000) (by omega)] at h2
    by_cases ho : okAll l
    · have h0 := ho.1
      have hr := roomQ_bd l
      have h3 := r_room q c l (by omega) hb ho.2
      by_cases hr2 : 16000 < (m.length : Int) + roomQ l
      · simp (config := { maxSteps := 1000000 }) (disch := omega) only [push_cast, ↓reduceIte, Nat.reduceEqDiff, Nat.reduceAdd, Nat.reduceLT, Nat.reduceLeDiff, Nat.reduceBEq, Nat.reduceMul, Nat.reduceSub, Int.reduceToNat, Int.reduceEq, Int.reduceLT, Int.reduceLE, Int.reduceNeg, Int.reduceAdd, Int.reduceSub, Int.reduceMul, Try.f21, kr21, kp21_14, kp21_6, ow21_14, ow21_6, ty3, ty4, ty9, ty22, ty23, ty26, ty27, ty34, ty36, tb4, List.flatMap_nil, hn, ho, h1, h2, h3, hr2]
      · have hl := rl_Enter6 q b c cm m l (by omega) (by omega) hb l 0 rfl
        simp only [cast1, List.length_append, List.length_cons, List.length_nil, Nat.zero_add, Nat.add_zero, Int.natCast_zero, Int.natCast_add, Int.zero_add, ints_1, ints_0, ] at hl
        by_cases he : errA m.length l = 0
        · rw [if_pos he] at hl
          have hl2 := rl_Enter14 q b c cm m l (by omega) (by omega) hb ho.2 l 0 m [] rfl rfl (by push_cast; omega)
          rw [List.flatMap_nil] at hl2
          simp only [cast1, List.length_append, List.length_cons, List.length_nil, Nat.zero_add, Nat.add_zero, Int.natCast_zero, Int.natCast_add, Int.zero_add, ints_1, ints_0, ] at hl2
          have fl := flat_len dscC_len (entQ m l (m, [])).2
          simp (config := { maxSteps := 1000000 }) (disch := omega) only [push_cast, ↓reduceIte, Nat.reduceEqDiff, Nat.reduceAdd, Nat.reduceLT, Nat.reduceLeDiff, Nat.reduceBEq, Nat.reduceMul, Nat.reduceSub, Int.reduceToNat, Int.reduceEq, Int.reduceLT, Int.reduceLE, Int.reduceNeg, Int.reduceAdd, Int.reduceSub, Int.reduceMul, Try.f21, kr21, kp21_14, kp21_6, ow21_14, ow21_6, ty3, ty4, ty9, ty22, ty23, ty26, ty27, ty34, ty36, tb4, List.flatMap_nil, hn, ho, h1, h2, h3, hl, hr2, he, hl2, fl]
        · rw [if_neg he] at hl
          simp (config := { maxSteps := 1000000 }) (disch := omega) only [push_cast, ↓reduceIte, Nat.reduceEqDiff, Nat.reduceAdd, Nat.reduceLT, Nat.reduceLeDiff, Nat.reduceBEq, Nat.reduceMul, Nat.reduceSub, Int.reduceToNat, Int.reduceEq, Int.reduceLT, Int.reduceLE, Int.reduceNeg, Int.reduceAdd, Int.reduceSub, Int.reduceMul, Try.f21, kr21, kp21_14, kp21_6, ow21_14, ow21_6, ty3, ty4, ty9, ty22, ty23, ty26, ty27, ty34, ty36, tb4, List.flatMap_nil, hn, ho, h1, h2, h3, hl, hr2, he]
    · simp (config := { maxSteps := 1000000 }) (disch := omega) only [push_cast, ↓reduceIte, Nat.reduceEqDiff, Nat.reduceAdd, Nat.reduceLT, Nat.reduceLeDiff, Nat.reduceBEq, Nat.reduceMul, Nat.reduceSub, Int.reduceToNat, Int.reduceEq, Int.reduceLT, Int.reduceLE, Int.reduceNeg, Int.reduceAdd, Int.reduceSub, Int.reduceMul, Try.f21, kr21, kp21_14, kp21_6, ow21_14, ow21_6, ty3, ty4, ty9, ty22, ty23, ty26, ty27, ty34, ty36, tb4, List.flatMap_nil, hn, ho, h1]
def segQ (m : List Int) : Nat → Nat → List Int
  | _, 0 => []
  | a, d + 1 => m.getD a 0 :: segQ m (a + 1) d
theorem segQ_len (m : List Int) : ∀ (a d : Nat), (segQ m a d).length = d
  | _, 0 => rfl
  | a, d + 1 => by rw [segQ, List.length_cons, segQ_len m (a + 1) d]
theorem row_seg (m : List Int) : ∀ (a d : Nat), a + d ≤ m.length → rowAt (ints m) a d = ints (segQ m a d)
  | a, 0, _ => by simp [rowAt, segQ, ints]
  | a, d + 1, h => by
    have ih := row_seg m (a + 1) d (by omega)
    unfold rowAt ints at ih ⊢
    rw [← List.map_drop, List.drop_eq_getElem_cons (show a < m.length by omega), List.map_cons, List.take_succ_cons, segQ, List.map_cons, List.map_drop, ih]
    congr 3
    simp [show a < m.length by omega]
def chP (p : PassQ) : Bool := p.2.2 && decide (p.2.1 ≠ (ByteArray.mk #[118, 97, 108, 117, 101]))
def plP (p : PassQ) : List Int := placesQ p.1.1 p.1.2.1 p.1.2.2
/-- What is left of a memory. -/
def levQ (m : List Int) : List PassQ → List Int → Nat → List Int
  | [], out, _ => out
  | p :: r, out, t => if packedQ p = true then levQ m r (if chP p = true then putL (plP p) (segQ m t (plP p).length) out else out) (t + (plP p).length) else levQ m r out t
theorem levQ_len (m : List Int) : ∀ (r : List PassQ) (out : List Int) (t : Nat), (levQ m r out t).length = out.length
  | [], _, _ => rfl
  | p :: r, out, t => by
    rw [levQ]
    split
    · rw [levQ_len m r]; split
      · rw [putL_len]
      · rfl
    · exact levQ_len m r _ _
def roomN : List PassQ → Nat
  | [] => 0
  | p :: r => (if packedQ p = true then (plP p).length else 0) + roomN r
theorem sizeD_pl {p : PassQ} : sizeD p.1.1 p.1.2.1 p.1.2.2 = ((plP p).length : Int) := by
  unfold sizeD plP placesQ
  by_cases h : okD p.1.1 p.1.2.1 p.1.2.2
  · rw [if_pos h, if_pos h, plcR_length h.2.2.1 h.1]
  · rw [if_neg h, if_neg h]; rfl
theorem roomN_eq : ∀ (l : List PassQ), roomQ l = (roomN l : Int)
  | [] => rfl
  | p :: r => by
    rw [roomQ, roomN, roomN_eq r, szP, sizeD_pl]
    split <;> simp
section
variable (q b : Bool) (c cm : Option Nat) (m : List Int) (l : List PassQ)
theorem l_Leave8 (n : Nat) (hn : n ≤ 4000) (hl : l.length ≤ 8) (hb : ∀ p ∈ l, bdP p) : ∀ (r : List PassQ) (i : Nat) (a : Int), l.drop i = r → 0 ≤ a → a ≤ 4000 + 4000 * (i : Int) →
    lp E0 pr0 23 8 ⟨[(0, SL b cm m.length (ints m)), (1, PsT q c l), (2, I n), (9, I a), (44, PsT q c l), (45, I l.length), (46, I i)], [], 0⟩ =
      some (.exit 0, ⟨[(0, SL b cm m.length (ints m)), (1, PsT q c l), (2, I n), (9, I (a + roomQ r))], [], 0⟩) := by
  intro r
  induction r with
  | nil =>
    intro i a h1 h2 h3
    have h5 := drop_nil h1
    have h6 : ¬ (i : Int) < l.length := by omega
    rw [lp_eq lp23_8]
    simp (config := { maxSteps := 1000000 }) (disch := omega) only [push_cast, ↓reduceIte, Nat.reduceEqDiff, Nat.reduceAdd, Nat.reduceLT, Nat.reduceLeDiff, Nat.reduceBEq, Nat.reduceMul, Nat.reduceSub, Int.reduceToNat, Int.reduceEq, Int.reduceLT, Int.reduceLE, Int.reduceNeg, Int.reduceAdd, Int.reduceSub, Int.reduceMul, Try.f23, kr23, kp23_22, kp23_8, ow23_22, ow23_8, ty3, ty4, ty9, ty22, ty23, ty27, ty34, ty36, tb4, h6, roomQ, Int.add_zero]
  | cons p r ih =>
    intro i a h1 h2 h3
    obtain ⟨g1, g2, g3⟩ := drop_cons h1
    have g8 : (i : Int) < l.length := by omega
    have hp := hb p (List.mem_of_getElem? g2)
    have hv := c_Size p.1.1 true true none none p.1.2.1 p.1.2.2 hp.2.1 hp.2.2
    have hk := c_packed true true none none p hp
    have e0 := sizeD_bd p.1.1 p.1.2.1 p.1.2.2
    rw [lp_eq lp23_8]
    unfold roomQ szP
    by_cases hx : packedQ p = true
    · have ih' := ih (i + 1) (a + sizeD p.1.1 p.1.2.1 p.1.2.2) g3 (by omega) (by push_cast; omega)
      simp only [cast1, List.length_append, List.length_cons, List.length_nil, Nat.zero_add, Nat.add_zero, Int.natCast_zero, Int.natCast_add, Int.zero_add, ints_1, ints_0, ] at ih'
      simp (config := { maxSteps := 1000000 }) (disch := omega) only [push_cast, ↓reduceIte, Nat.reduceEqDiff, Nat.reduceAdd, Nat.reduceLT, Nat.reduceLeDiff, Nat.reduceBEq, Nat.reduceMul, Nat.reduceSub, Int.reduceToNat, Int.reduceEq, Int.reduceLT, Int.reduceLE, Int.reduceNeg, Int.reduceAdd, Int.reduceSub, Int.reduceMul, Try.f23, kr23, kp23_22, kp23_8, ow23_22, ow23_8, ty3, ty4, ty9, ty22, ty23, ty27, ty34, ty36, tb4, g1, g8, ps0 g2, ps1 g2, ps2 g2, ps3 g2, ps4 g2, hv, hk, hx, ih', Int.add_assoc]
    · have ih' := ih (i + 1) a g3 (by omega) (by push_cast; omega)
      simp only [cast1, List.length_append, List.length_cons, List.length_nil, Nat.zero_add, Nat.add_zero, Int.natCast_zero, Int.natCast_add, Int.zero_add, ints_1, ints_0, ] at ih'
      simp (config := { maxSteps := 1000000 }) (disch := omega) only [push_cast, ↓reduceIte, Nat.reduceEqDiff, Nat.reduceAdd, Nat.reduceLT, Nat.reduceLeDiff, Nat.reduceBEq, Nat.reduceMul, Nat.reduceSub, Int.reduceToNat, Int.reduceEq, Int.reduceLT, Int.reduceLE, Int.reduceNeg, Int.reduceAdd, Int.reduceSub, Int.reduceMul, Try.f23, kr23, kp23_22, kp23_8, ow23_22, ow23_8, ty3, ty4, ty9, ty22, ty23, ty27, ty34, ty36, tb4, g1, g8, ps0 g2, ps1 g2, ps2 g2, ps3 g2, ps4 g2, hv, hk, hx, ih', Int.zero_add]
theorem l_Leave22 (hm : m.length ≤ 16000) (hl : l.length ≤ 8) (hb : ∀ p ∈ l, bdP p) (ho : ∀ p ∈ l, okPs p) (n : Nat) (hn : n ≤ 4000) (he : ∀ p ∈ l, errI n p.1.1 p.1.2.1 p.1.2.2 = 0) : ∀ (r : List PassQ) (i : Nat) (out : List Int) (t : Nat), l.drop i = r → out.length = n → t + roomN r ≤ m.length →
    lp E0 pr0 23 22 ⟨[(0, SL b cm m.length (ints m)), (15, .sl 0 0 out.length 1 none), (16, I t), (79, PsT q c l), (80, I l.length), (81, I i)], [(0, .arr (ints out) 0 1)], 1⟩ =
      some (.exit 2, ⟨[(15, .sl 0 0 (levQ m r out t).length 1 none)], [(0, .arr (ints (levQ m r out t)) 0 1)], 1⟩) := by
  intro r
  induction r with
  | nil =>
    intro i out t h1 h2 h3
    have h5 := drop_nil h1
    have h6 : ¬ (i : Int) < l.length := by omega
    rw [lp_eq lp23_22]
    simp (config := { maxSteps := 1000000 }) (disch := omega) only [push_cast, ↓reduceIte, Nat.reduceEqDiff, Nat.reduceAdd, Nat.reduceLT, Nat.reduceLeDiff, Nat.reduceBEq, Nat.reduceMul, Nat.reduceSub, Int.reduceToNat, Int.reduceEq, Int.reduceLT, Int.reduceLE, Int.reduceNeg, Int.reduceAdd, Int.reduceSub, Int.reduceMul, Try.f23, kr23, kp23_22, kp23_8, ow23_22, ow23_8, ty3, ty4, ty9, ty22, ty23, ty27, ty34, ty36, tb4, h6, levQ]
  | cons p r ih =>
    intro i out t h1 h2 h3
    obtain ⟨g1, g2, g3⟩ := drop_cons h1
    have g8 : (i : Int) < l.length := by omega
    have hmem := List.mem_of_getElem? g2
    have hp := hb p hmem
    have hv := c_Size p.1.1 true true none none p.1.2.1 p.1.2.2 hp.2.1 hp.2.2
    have hk := c_packed true true none none p hp
    have hpe := he p hmem
    rw [sizeD_pl] at hv
    rw [roomN] at h3
    have n1 : (plP p).length ≤ 4000 := placesQ_len _ _ _
    rw [lp_eq lp23_22]
    unfold levQ
    by_cases hx : packedQ p = true
    · rw [if_pos hx] at h3 ⊢
      have t1 : ((t : Int) + ((plP p).length : Int)).toNat = t + (plP p).length := by omega
      have t2 : 0 ≤ (t : Int) + ((plP p).length : Int) := by omega
      have t3 : (t : Int) + ((plP p).length : Int) ≤ m.length := by omega
      have rs := row_seg m t (plP p).length (by omega)
      have t4 : (t : Int) ≤ (t : Int) + ((plP p).length : Int) := by omega
      by_cases hc : chP p = true
      · unfold chP at hc
        simp only [Bool.and_eq_true, decide_eq_true_eq] at hc
        have eP : errP out p.1.1 p.1.2.1 p.1.2.2 = 0 := by unfold errP; rw [if_neg (by omega), h2]; exact hpe
        have eU : errU out p.1.1 p.1.2.1 p.1.2.2 (segQ m t (plP p).length) = 0 := by unfold errU; rw [if_pos eP, segQ_len]; exact if_pos rfl
        have eQ : unpQ out p.1.1 p.1.2.1 p.1.2.2 (segQ m t (plP p).length) = putL (plP p) (segQ m t (plP p).length) out := by unfold unpQ; rw [if_pos eU]; rfl
        have hu := fun cap => c_Unpack p.1.1 false true true b none none none cap out p.1.2.1 p.1.2.2 (segQ m t (plP p).length) hp.2.1 hp.2.2 (by omega) (by rw [segQ_len]; omega) hp.1
        rw [eU, eQ, segQ_len] at hu
        have ih' := ih (i + 1) (putL (plP p) (segQ m t (plP p).length) out) (t + (plP p).length) g3 (by rw [putL_len, h2]) (by omega)
        simp only [cast1, List.length_append, List.length_cons, List.length_nil, Nat.zero_add, Nat.add_zero, Int.natCast_zero, Int.natCast_add, Int.zero_add, ints_1, ints_0, ] at ih'
        simp only [P1, hc.1] at hk
        rw [if_pos (show chP p = true by unfold chP; simp [hc.1, hc.2])]
        simp (config := { maxSteps := 1000000 }) (disch := omega) only [push_cast, ↓reduceIte, Nat.reduceEqDiff, Nat.reduceAdd, Nat.reduceLT, Nat.reduceLeDiff, Nat.reduceBEq, Nat.reduceMul, Nat.reduceSub, Int.reduceToNat, Int.reduceEq, Int.reduceLT, Int.reduceLE, Int.reduceNeg, Int.reduceAdd, Int.reduceSub, Int.reduceMul, Try.f23, kr23, kp23_22, kp23_8, ow23_22, ow23_8, ty3, ty4, ty9, ty22, ty23, ty27, ty34, ty36, tb4, g1, g8, ps0 g2, ps1 g2, ps2 g2, ps3 g2, ps4 g2, hv, hk, hx, hc.1, hc.2, t1, t2, t3, t4, Nat.add_sub_cancel_left, rs, hu, ih']
      · have ih' := ih (i + 1) out (t + (plP p).length) g3 h2 (by omega)
        simp only [cast1, List.length_append, List.length_cons, List.length_nil, Nat.zero_add, Nat.add_zero, Int.natCast_zero, Int.natCast_add, Int.zero_add, ints_1, ints_0, ] at ih'
        rw [if_neg hc]
        unfold chP at hc
        by_cases hc1 : p.2.2 = true
        · have hc2 : p.2.1 = (ByteArray.mk #[118, 97, 108, 117, 101]) := by
            refine Decidable.byContradiction fun h => hc ?_
            simp [hc1, h]
          simp only [P1, hc1, hc2] at hk
          simp (config := { maxSteps := 1000000 }) (disch := omega) only [push_cast, ↓reduceIte, Nat.reduceEqDiff, Nat.reduceAdd, Nat.reduceLT, Nat.reduceLeDiff, Nat.reduceBEq, Nat.reduceMul, Nat.reduceSub, Int.reduceToNat, Int.reduceEq, Int.reduceLT, Int.reduceLE, Int.reduceNeg, Int.reduceAdd, Int.reduceSub, Int.reduceMul, Try.f23, kr23, kp23_22, kp23_8, ow23_22, ow23_8, ty3, ty4, ty9, ty22, ty23, ty27, ty34, ty36, tb4, g1, g8, ps0 g2, ps1 g2, ps2 g2, ps3 g2, ps4 g2, hv, hk, hx, hc1, hc2, ih']
        · have hc1 : p.2.2 = false := by simpa using hc1
          simp only [P1, hc1] at hk
          simp (config := { maxSteps := 1000000 }) (disch := omega) only [push_cast, ↓reduceIte, Nat.reduceEqDiff, Nat.reduceAdd, Nat.reduceLT, Nat.reduceLeDiff, Nat.reduceBEq, Nat.reduceMul, Nat.reduceSub, Int.reduceToNat, Int.reduceEq, Int.reduceLT, Int.reduceLE, Int.reduceNeg, Int.reduceAdd, Int.reduceSub, Int.reduceMul, Try.f23, kr23, kp23_22, kp23_8, ow23_22, ow23_8, ty3, ty4, ty9, ty22, ty23, ty27, ty34, ty36, tb4, g1, g8, ps0 g2, ps1 g2, ps2 g2, ps3 g2, ps4 g2, hv, hk, hx, hc1, ih']
    · rw [if_neg hx] at h3 ⊢
      have ih' := ih (i + 1) out t g3 h2 (by omega)
      simp only [cast1, List.length_append, List.length_cons, List.length_nil, Nat.zero_add, Nat.add_zero, Int.natCast_zero, Int.natCast_add, Int.zero_add, ints_1, ints_0, ] at ih'
      simp (config := { maxSteps := 1000000 }) (disch := omega) only [push_cast, ↓reduceIte, Nat.reduceEqDiff, Nat.reduceAdd, Nat.reduceLT, Nat.reduceLeDiff, Nat.reduceBEq, Nat.reduceMul, Nat.reduceSub, Int.reduceToNat, Int.reduceEq, Int.reduceLT, Int.reduceLE, Int.reduceNeg, Int.reduceAdd, Int.reduceSub, Int.reduceMul, Try.f23, kr23, kp23_22, kp23_8, ow23_22, ow23_8, ty3, ty4, ty9, ty22, ty23, ty27, ty34, ty36, tb4, g1, g8, ps0 g2, ps1 g2, ps2 g2, ps3 g2, ps4 g2, hv, hk, hx, ih']
theorem row_take (k : Nat) : rowAt (ints m) 0 k = ints (m.take k) := by
  unfold rowAt ints
  rw [List.drop_zero, List.map_take]
def errL (m : List Int) (l : List PassQ) (n : Int) : Int := if ((0 ≤ n ∧ n ≤ 4000) ∧ (m.length : Int) = n + roomQ l ∧ (m.length : Int) ≤ 16000) ∧ okAll l then errA n.toNat l else 2
def levR (m : List Int) (l : List PassQ) (n : Int) : List Int := if errL m l n = 0 then levQ m l (m.take n.toNat) n.toNat else []
theorem c_Leave (n : Int) (hm : (m.length : Int) ≤ 9223372036854775806) (hb : ∀ p ∈ l, bdP p) :
    CALL 23 [SL b cm m.length (ints m), PsT q c l, I n] = some (.tup [.sl 0 0 (levR m l n).length 1 none, I (errL m l n)], [ints (levR m l n)]) := by
  have h1 := c_valid q c l hb
  have hr := roomQ_bd l
  unfold levR errL
  refine lim_run (fn := Try.f23) fn23 rfl body23 (Nat.le_of_ble_eq_true rfl) ok23 ?_
  by_cases k1 : n < 0
  · have e : ¬ (((0 ≤ n ∧ n ≤ 4000) ∧ (m.length : Int) = n + roomQ l ∧ (m.length : Int) ≤ 16000) ∧ okAll l) := fun h => by omega
    rw [if_neg e]
    simp (config := { maxSteps := 1000000 }) (disch := omega) only [push_cast, ↓reduceIte, Nat.reduceEqDiff, Nat.reduceAdd, Nat.reduceLT, Nat.reduceLeDiff, Nat.reduceBEq, Nat.reduceMul, Nat.reduceSub, Int.reduceToNat, Int.reduceEq, Int.reduceLT, Int.reduceLE, Int.reduceNeg, Int.reduceAdd, Int.reduceSub, Int.reduceMul, Try.f23, kr23, kp23_22, kp23_8, ow23_22, ow23_8, ty3, ty4, ty9, ty22, ty23, ty27, ty34, ty36, tb4, k1]
  · by_cases k2 : 4000 < n
    · have e : ¬ (((0 ≤ n ∧ n ≤ 4000) ∧ (m.length : Int) = n + roomQ l ∧ (m.length : Int) ≤ 16000) ∧ okAll l) := fun h => by omega
      rw [if_neg e]
      simp (config := { maxSteps := 1000000 }) (disch := omega) only [push_cast, ↓reduceIte, Nat.reduceEqDiff, Nat.reduceAdd, Nat.reduceLT, Nat.reduceLeDiff, Nat.reduceBEq, Nat.reduceMul, Nat.reduceSub, Int.reduceToNat, Int.reduceEq, Int.reduceLT, Int.reduceLE, Int.reduceNeg, Int.reduceAdd, Int.reduceSub, Int.reduceMul, Try.f23, kr23, kp23_22, kp23_8, ow23_22, ow23_8, ty3, ty4, ty9, ty22, ty23, ty27, ty34, ty36, tb4, k1, k2]
    · obtain ⟨n, rfl⟩ : ∃ k : Nat, n = k := ⟨n.toNat, by omega⟩
      by_cases k3 : (m.length : Int) < n
      · have e : ¬ (((0 ≤ (n : Int) ∧ (n : Int) ≤ 4000) ∧ (m.length : Int) = n + roomQ l ∧ (m.length : Int) ≤ 16000) ∧ okAll l) := fun h => by omega
        rw [if_neg e]
        simp (config := { maxSteps := 1000000 }) (disch := omega) only [push_cast, ↓reduceIte, Nat.reduceEqDiff, Nat.reduceAdd, Nat.reduceLT, Nat.reduceLeDiff, Nat.reduceBEq, Nat.reduceMul, Nat.reduceSub, Int.reduceToNat, Int.reduceEq, Int.reduceLT, Int.reduceLE, Int.reduceNeg, Int.reduceAdd, Int.reduceSub, Int.reduceMul, Try.f23, kr23, kp23_22, kp23_8, ow23_22, ow23_8, ty3, ty4, ty9, ty22, ty23, ty27, ty34, ty36, tb4, k1, k2, k3]
      · by_cases k4 : 16000 < (m.length : Int)
        · have e : ¬ (((0 ≤ (n : Int) ∧ (n : Int) ≤ 4000) ∧ (m.length : Int) = n + roomQ l ∧ (m.length : Int) ≤ 16000) ∧ okAll l) := fun h => by omega
          rw [if_neg e]
          simp (config := { maxSteps := 1000000 }) (disch := omega) only [push_cast, ↓reduceIte, Nat.reduceEqDiff, Nat.reduceAdd, Nat.reduceLT, Nat.reduceLeDiff, Nat.reduceBEq, Nat.reduceMul, Nat.reduceSub, Int.reduceToNat, Int.reduceEq, Int.reduceLT, Int.reduceLE, Int.reduceNeg, Int.reduceAdd, Int.reduceSub, Int.reduceMul, Try.f23, kr23, kp23_22, kp23_8, ow23_22, ow23_8, ty3, ty4, ty9, ty22, ty23, ty27, ty34, ty36, tb4, k1, k2, k3, k4]
        · by_cases ho : okAll l
          · have h0 := ho.1
            have hl := l_Leave8 q b c cm m l n (by omega) (by omega) hb l 0 n rfl (by omega) (by omega)
            simp only [cast1, List.length_append, List.length_cons, List.length_nil, Nat.zero_add, Nat.add_zero, Int.natCast_zero, Int.natCast_add, Int.zero_add, ints_1, ints_0, ] at hl
            by_cases k5 : (n : Int) + roomQ l = m.length
            · have e : (((0 ≤ (n : Int) ∧ (n : Int) ≤ 4000) ∧ (m.length : Int) = n + roomQ l ∧ (m.length : Int) ≤ 16000) ∧ okAll l) := ⟨by omega, ho⟩
              rw [if_pos e]
              have htl : (m.take n).length = n := by rw [List.length_take]; omega
              have ha := fun cap => c_all q b c cap (m.take n) l (by omega) hb ho
              have hc := fun cap => c_Clone b cap (m.take n) (by omega)
              rw [htl] at ha hc
              have k6 : (n : Int) ≤ m.length := by omega
              by_cases he : errA n l = 0
              · have hl2 := l_Leave22 q b c cm m l (by omega) (by omega) hb ho.2 n (by omega) (errA_mem he) l 0 (m.take n) n rfl htl (by have := roomN_eq l; omega)
                rw [htl, levQ_len, htl] at hl2
                simp only [cast1, List.length_append, List.length_cons, List.length_nil, Nat.zero_add, Nat.add_zero, Int.natCast_zero, Int.natCast_add, Int.zero_add, ints_1, ints_0, ] at hl2
                have rw' : rowAt (ints (levQ m l (m.take n) n)) 0 n = ints (levQ m l (m.take n) n) := by
                  have := rowAt_ints (levQ m l (m.take n) n)
                  rwa [levQ_len, htl] at this
                simp (config := { maxSteps := 1000000 }) (disch := omega) only [push_cast, ↓reduceIte, Nat.reduceEqDiff, Nat.reduceAdd, Nat.reduceLT, Nat.reduceLeDiff, Nat.reduceBEq, Nat.reduceMul, Nat.reduceSub, Int.reduceToNat, Int.reduceEq, Int.reduceLT, Int.reduceLE, Int.reduceNeg, Int.reduceAdd, Int.reduceSub, Int.reduceMul, Try.f23, kr23, kp23_22, kp23_8, ow23_22, ow23_8, ty3, ty4, ty9, ty22, ty23, ty27, ty34, ty36, tb4, k1, k2, k3, k4, h1, ho, hl, k5, k6, Nat.sub_zero, row_take, ha, hc, he, hl2, levQ_len, htl, rw']
              · simp (config := { maxSteps := 1000000 }) (disch := omega) only [push_cast, ↓reduceIte, Nat.reduceEqDiff, Nat.reduceAdd, Nat.reduceLT, Nat.reduceLeDiff, Nat.reduceBEq, Nat.reduceMul, Nat.reduceSub, Int.reduceToNat, Int.reduceEq, Int.reduceLT, Int.reduceLE, Int.reduceNeg, Int.reduceAdd, Int.reduceSub, Int.reduceMul, Try.f23, kr23, kp23_22, kp23_8, ow23_22, ow23_8, ty3, ty4, ty9, ty22, ty23, ty27, ty34, ty36, tb4, k1, k2, k3, k4, h1, ho, hl, k5, k6, Nat.sub_zero, row_take, ha, he]
            · have e : ¬ (((0 ≤ (n : Int) ∧ (n : Int) ≤ 4000) ∧ (m.length : Int) = n + roomQ l ∧ (m.length : Int) ≤ 16000) ∧ okAll l) := fun h => by omega
              rw [if_neg e]
              simp (config := { maxSteps := 1000000 }) (disch := omega) only [push_cast, ↓reduceIte, Nat.reduceEqDiff, Nat.reduceAdd, Nat.reduceLT, Nat.reduceLeDiff, Nat.reduceBEq, Nat.reduceMul, Nat.reduceSub, Int.reduceToNat, Int.reduceEq, Int.reduceLT, Int.reduceLE, Int.reduceNeg, Int.reduceAdd, Int.reduceSub, Int.reduceMul, Try.f23, kr23, kp23_22, kp23_8, ow23_22, ow23_8, ty3, ty4, ty9, ty22, ty23, ty27, ty34, ty36, tb4, k1, k2, k3, k4, h1, ho, hl, k5]
          · have e : ¬ (((0 ≤ (n : Int) ∧ (n : Int) ≤ 4000) ∧ (m.length : Int) = n + roomQ l ∧ (m.length : Int) ≤ 16000) ∧ okAll l) := fun h => ho h.2
            rw [if_neg e]
            simp (config := { maxSteps := 1000000 }) (disch := omega) only [push_cast, ↓reduceIte, Nat.reduceEqDiff, Nat.reduceAdd, Nat.reduceLT, Nat.reduceLeDiff, Nat.reduceBEq, Nat.reduceMul, Nat.reduceSub, Int.reduceToNat, Int.reduceEq, Int.reduceLT, Int.reduceLE, Int.reduceNeg, Int.reduceAdd, Int.reduceSub, Int.reduceMul, Try.f23, kr23, kp23_22, kp23_8, ow23_22, ow23_8, ty3, ty4, ty9, ty22, ty23, ty27, ty34, ty36, tb4, k1, k2, k3, k4, h1, ho]
end
theorem putL_app (X Y : List Int) : ∀ (r q : List Int), (∀ x ∈ r, 0 ≤ x ∧ x < X.length) → putL r q (X ++ Y) = putL r q X ++ Y
  | [], q, _ => rfl
  | x :: r, [], _ => rfl
  | x :: r, y :: q, h => by
    have hx := h x (by simp)
    rw [putL, putL, List.set_append_left _ _ (by omega)]
    exact putL_app (X.set x.toNat y) Y r q (fun z hz => by rw [List.length_set]; exact h z (by simp [hz]))
theorem levQ_app (m Y : List Int) : ∀ (r : List PassQ) (X : List Int) (t : Nat), (∀ p ∈ r, ∀ x ∈ plP p, 0 ≤ x ∧ x < X.length) → levQ m r (X ++ Y) t = levQ m r X t ++ Y
  | [], X, t, _ => rfl
  | p :: r, X, t, h => by
    have hr : ∀ Z : List Int, Z.length = X.length → ∀ q ∈ r, ∀ x ∈ plP q, 0 ≤ x ∧ x < Z.length := fun Z hZ q hq => by rw [hZ]; exact h q (by simp [hq])
    rw [levQ, levQ]
    split
    · split
      · rw [putL_app X Y _ _ (h p (by simp))]
        exact levQ_app m Y r _ _ (hr _ (putL_len _ _ _))
      · exact levQ_app m Y r _ _ (hr _ rfl)
    · exact levQ_app m Y r _ _ (hr _ rfl)
section
variable (q b : Bool) (c cm : Option Nat) (m : List Int) (l : List PassQ)
theorem rl_Leave4 (n : Nat) (hn : n ≤ 4000) (hnm : n ≤ m.length) (hm : m.length ≤ 16000) (hl : l.length ≤ 8) (hb : ∀ p ∈ l, bdP p) : ∀ (r : List PassQ) (i : Nat), l.drop i = r →
    lp E0 pr0 24 4 ⟨[(0, SL b cm m.length (ints m)), (1, PsT q c l), (2, I n), (8, I i)], [], 0⟩ =
      if errA n r = 0 then some (.exit 0, ⟨[(0, SL b cm m.length (ints m)), (1, PsT q c l), (2, I n)], [], 0⟩) else some (.ret, ⟨[(6, nilC), (7, I (errA n r))], [], 0⟩) := by
  intro r
  have htl : (m.take n).length = n := by rw [List.length_take]; omega
  have k6 : (n : Int) ≤ m.length := by omega
  induction r with
  | nil =>
    intro i h1
    have h5 := drop_nil h1
    have h6 : ¬ (i : Int) < l.length := by omega
    rw [lp_eq lp24_4]
    simp (config := { maxSteps := 1000000 }) (disch := omega) only [push_cast, ↓reduceIte, Nat.reduceEqDiff, Nat.reduceAdd, Nat.reduceLT, Nat.reduceLeDiff, Nat.reduceBEq, Nat.reduceMul, Nat.reduceSub, Int.reduceToNat, Int.reduceEq, Int.reduceLT, Int.reduceLE, Int.reduceNeg, Int.reduceAdd, Int.reduceSub, Int.reduceMul, Try.f24, kr24, kp24_17, kp24_12, kp24_4, ow24_17, ow24_12, ow24_4, ty3, ty4, ty9, ty22, ty23, ty27, ty34, ty36, tb4, h6, errA]
  | cons p r ih =>
    intro i h1
    obtain ⟨g1, g2, g3⟩ := drop_cons h1
    have g8 : (i : Int) < l.length := by omega
    have ih' := ih (i + 1) g3
    have hp := hb p (List.mem_of_getElem? g2)
    have hv := fun cap => r_inside p.1.1 b true true cap none none (m.take n) p.1.2.1 p.1.2.2 hp.1 (by omega)
    rw [htl] at hv
    simp only [cast1, List.length_append, List.length_cons, List.length_nil, Nat.zero_add, Nat.add_zero, Int.natCast_zero, Int.natCast_add, Int.zero_add, ints_1, ints_0, ] at ih'
    rw [lp_eq lp24_4]
    unfold errA
    by_cases hx : errI n p.1.1 p.1.2.1 p.1.2.2 = 0
    · simp (config := { maxSteps := 1000000 }) (disch := omega) only [push_cast, ↓reduceIte, Nat.reduceEqDiff, Nat.reduceAdd, Nat.reduceLT, Nat.reduceLeDiff, Nat.reduceBEq, Nat.reduceMul, Nat.reduceSub, Int.reduceToNat, Int.reduceEq, Int.reduceLT, Int.reduceLE, Int.reduceNeg, Int.reduceAdd, Int.reduceSub, Int.reduceMul, Try.f24, kr24, kp24_17, kp24_12, kp24_4, ow24_17, ow24_12, ow24_4, ty3, ty4, ty9, ty22, ty23, ty27, ty34, ty36, tb4, g1, g8, k6, Nat.sub_zero, row_take, ps0 g2, ps1 g2, ps2 g2, ps3 g2, ps4 g2, hv, hx, ih']
    · simp (config := { maxSteps := 1000000 }) (disch := omega) only [push_cast, ↓reduceIte, Nat.reduceEqDiff, Nat.reduceAdd, Nat.reduceLT, Nat.reduceLeDiff, Nat.reduceBEq, Nat.reduceMul, Nat.reduceSub, Int.reduceToNat, Int.reduceEq, Int.reduceLT, Int.reduceLE, Int.reduceNeg, Int.reduceAdd, Int.reduceSub, Int.reduceMul, Try.f24, kr24, kp24_17, kp24_12, kp24_4, ow24_17, ow24_12, ow24_4, ty3, ty4, ty9, ty22, ty23, ty27, ty34, ty36, tb4, g1, g8, k6, Nat.sub_zero, row_take, ps0 g2, ps1 g2, ps2 g2, ps3 g2, ps4 g2, hv, hx]
theorem rl_Leave17 (n : Nat) (hm : m.length ≤ 16000) (hl : l.length ≤ 8) (i : Nat) (p : PassQ) (hp : l[i]? = some p) (P : List Int) (hP : P.length ≤ 4000) (hx : ∀ x ∈ P, 0 ≤ x ∧ x < m.length) : ∀ (r : List Int) (k t : Nat) (out : List Int), P.drop k = r → out.length = m.length → t + r.length ≤ m.length →
    lp E0 pr0 24 17 ⟨[(0, SL b cm m.length (ints m)), (1, PsT q c l), (2, I n), (10, .sl 0 0 m.length 1 none), (11, I t), (12, I i), (13, .sl 1 0 P.length 1 none), (15, I k)], [(0, .arr (ints out) 0 1), (1, .arr (ints P) 1 1)], 2⟩ =
      some (.exit 4, ⟨[(0, SL b cm m.length (ints m)), (1, PsT q c l), (2, I n), (10, .sl 0 0 m.length 1 none), (11, I (t + r.length)), (12, I i)], [(0, .arr (ints (if chP p = true then putL r (segQ m t r.length) out else out)) 0 1)], 1⟩) := by
  intro r
  have hi0 : i < l.length := by
    rcases Nat.lt_or_ge i l.length with h | h
    · exact h
    · rw [List.getElem?_eq_none h] at hp; simp at hp
  have hi : (i : Int) < l.length := by omega
  induction r with
  | nil =>
    intro k t out h1 h2 h3
    have h5 := drop_nil h1
    have h6 : ¬ (k : Int) < P.length := by omega
    have e : (if chP p = true then putL [] (segQ m t ([] : List Int).length) out else out) = out := by split <;> rfl
    rw [e]
    rw [lp_eq lp24_17]
    simp (config := { maxSteps := 1000000 }) (disch := omega) only [push_cast, ↓reduceIte, Nat.reduceEqDiff, Nat.reduceAdd, Nat.reduceLT, Nat.reduceLeDiff, Nat.reduceBEq, Nat.reduceMul, Nat.reduceSub, Int.reduceToNat, Int.reduceEq, Int.reduceLT, Int.reduceLE, Int.reduceNeg, Int.reduceAdd, Int.reduceSub, Int.reduceMul, Try.f24, kr24, kp24_17, kp24_12, kp24_4, ow24_17, ow24_12, ow24_4, ty3, ty4, ty9, ty22, ty23, ty27, ty34, ty36, tb4, h6, Int.add_zero]
  | cons x r ih =>
    intro k t out h1 h2 h3
    obtain ⟨g1, g2, g3⟩ := drop_cons h1
    have g8 : (k : Int) < P.length := by omega
    obtain ⟨e0, e1⟩ := hx x (List.mem_of_getElem? g2)
    obtain ⟨s, rfl⟩ : ∃ k : Nat, x = k := ⟨x.toNat, by omega⟩
    simp only [List.length_cons] at h3
    have t0 : t < m.length := by omega
    have t1 : (t : Int) < m.length := by omega
    have hs : s < out.length := by omega
    have tz : ((r.length + 1 : Nat) : Int) = (r.length : Int) + 1 := rfl
    have ta : (t : Int) + 1 + (r.length : Int) = (t : Int) + ((r.length : Int) + 1) := by omega
    by_cases hc : chP p = true
    · have hc' := hc
      unfold chP at hc'
      simp only [Bool.and_eq_true, decide_eq_true_eq] at hc'
      have ih' := ih (k + 1) (t + 1) (out.set s (m.getD t 0)) g3 (by rw [List.length_set, h2]) (by omega)
      rw [if_pos hc] at ih' ⊢
      simp only [cast1, List.length_append, List.length_cons, List.length_nil, Nat.zero_add, Nat.add_zero, Int.natCast_zero, Int.natCast_add, Int.zero_add, ints_1, ints_0, ] at ih'
      rw [ta] at ih'
      rw [lp_eq lp24_17]
      simp (config := { maxSteps := 1000000 }) (disch := omega) only [push_cast, ↓reduceIte, Nat.reduceEqDiff, Nat.reduceAdd, Nat.reduceLT, Nat.reduceLeDiff, Nat.reduceBEq, Nat.reduceMul, Nat.reduceSub, Int.reduceToNat, Int.reduceEq, Int.reduceLT, Int.reduceLE, Int.reduceNeg, Int.reduceAdd, Int.reduceSub, Int.reduceMul, Try.f24, kr24, kp24_17, kp24_12, kp24_4, ow24_17, ow24_12, ow24_4, ty3, ty4, ty9, ty22, ty23, ty27, ty34, ty36, tb4, g1, g8, hi0, hi, t0, t1, hs, h2, e1, getD_of g2, ps0 hp, ps1 hp, ps2 hp, ps3 hp, ps4 hp, hc'.1, hc'.2, splice_ints _ hs, ih', putL, segQ, tz, ne_eq]
    · have ih' := ih (k + 1) (t + 1) out g3 h2 (by omega)
      rw [if_neg hc] at ih' ⊢
      simp only [cast1, List.length_append, List.length_cons, List.length_nil, Nat.zero_add, Nat.add_zero, Int.natCast_zero, Int.natCast_add, Int.zero_add, ints_1, ints_0, ] at ih'
      rw [ta] at ih'
      rw [lp_eq lp24_17]
      unfold chP at hc
      by_cases hc1 : p.2.2 = true
      · have hc2 : p.2.1 = (ByteArray.mk #[118, 97, 108, 117, 101]) := by
          refine Decidable.byContradiction fun h => hc ?_
          simp [hc1, h]
        simp (config := { maxSteps := 1000000 }) (disch := omega) only [push_cast, ↓reduceIte, Nat.reduceEqDiff, Nat.reduceAdd, Nat.reduceLT, Nat.reduceLeDiff, Nat.reduceBEq, Nat.reduceMul, Nat.reduceSub, Int.reduceToNat, Int.reduceEq, Int.reduceLT, Int.reduceLE, Int.reduceNeg, Int.reduceAdd, Int.reduceSub, Int.reduceMul, Try.f24, kr24, kp24_17, kp24_12, kp24_4, ow24_17, ow24_12, ow24_4, ty3, ty4, ty9, ty22, ty23, ty27, ty34, ty36, tb4, g1, g8, hi0, hi, t0, t1, hs, h2, e1, getD_of g2, ps0 hp, ps1 hp, ps2 hp, ps3 hp, ps4 hp, hc1, hc2, ih', tz]
      · have hc1 : p.2.2 = false := by simpa using hc1
        simp (config := { maxSteps := 1000000 }) (disch := omega) only [push_cast, ↓reduceIte, Nat.reduceEqDiff, Nat.reduceAdd, Nat.reduceLT, Nat.reduceLeDiff, Nat.reduceBEq, Nat.reduceMul, Nat.reduceSub, Int.reduceToNat, Int.reduceEq, Int.reduceLT, Int.reduceLE, Int.reduceNeg, Int.reduceAdd, Int.reduceSub, Int.reduceMul, Try.f24, kr24, kp24_17, kp24_12, kp24_4, ow24_17, ow24_12, ow24_4, ty3, ty4, ty9, ty22, ty23, ty27, ty34, ty36, tb4, g1, g8, hi0, hi, t0, t1, hs, h2, e1, getD_of g2, ps0 hp, ps1 hp, ps2 hp, ps3 hp, ps4 hp, hc1, ih', tz]
theorem rl_Leave12 (hm : m.length ≤ 16000) (hl : l.length ≤ 8) (hb : ∀ p ∈ l, bdP p) (ho : ∀ p ∈ l, okPs p) (n : Nat) (hn : n ≤ m.length) (hpl : ∀ p ∈ l, ∀ x ∈ plP p, 0 ≤ x ∧ x < m.length) : ∀ (r : List PassQ) (i : Nat) (out : List Int) (t : Nat), l.drop i = r → out.length = m.length → t + roomN r ≤ m.length →
    lp E0 pr0 24 12 ⟨[(0, SL b cm m.length (ints m)), (1, PsT q c l), (2, I n), (10, .sl 0 0 m.length 1 none), (11, I t), (12, I i)], [(0, .arr (ints out) 0 1)], 1⟩ =
      some (.exit 2, ⟨[(2, I n), (10, .sl 0 0 m.length 1 none)], [(0, .arr (ints (levQ m r out t)) 0 1)], 1⟩) := by
  intro r
  induction r with
  | nil =>
    intro i out t h1 h2 h3
    have h5 := drop_nil h1
    have h6 : ¬ (i : Int) < l.length := by omega
    rw [lp_eq lp24_12]
    simp (config := { maxSteps := 1000000 }) (disch := omega) only [push_cast, ↓reduceIte, Nat.reduceEqDiff, Nat.reduceAdd, Nat.reduceLT, Nat.reduceLeDiff, Nat.reduceBEq, Nat.reduceMul, Nat.reduceSub, Int.reduceToNat, Int.reduceEq, Int.reduceLT, Int.reduceLE, Int.reduceNeg, Int.reduceAdd, Int.reduceSub, Int.reduceMul, Try.f24, kr24, kp24_17, kp24_12, kp24_4, ow24_17, ow24_12, ow24_4, ty3, ty4, ty9, ty22, ty23, ty27, ty34, ty36, tb4, h6, levQ]
  | cons p r ih =>
    intro i out t h1 h2 h3
    obtain ⟨g1, g2, g3⟩ := drop_cons h1
    have g8 : (i : Int) < l.length := by omega
    have hmem := List.mem_of_getElem? g2
    have hp := hb p hmem
    have hk := r_packed true true none none p hp (ho p hmem).2
    have hv : CALL 13 [Dsc p.1.1 true none p.1.2.1 true none p.1.2.2] = some (.tup [.sl 0 0 (plP p).length 1 none, I (errD p.1.1 p.1.2.1 p.1.2.2)], [ints (plP p)]) := r_Places p.1.1 true true none none p.1.2.1 p.1.2.2 hp.1
    have n1 : (plP p).length ≤ 4000 := placesQ_len _ _ _
    rw [roomN] at h3
    unfold levQ
    by_cases hx : packedQ p = true
    · rw [if_pos hx] at h3 ⊢
      have hin := rl_Leave17 q b c cm m l n hm hl i p g2 (plP p) n1 (hpl p hmem) (plP p) 0 t out rfl h2 (by omega)
      have ih' := ih (i + 1) (if chP p = true then putL (plP p) (segQ m t (plP p).length) out else out) (t + (plP p).length) g3 (by split <;> simp [putL_len, h2]) (by omega)
      simp only [cast1, List.length_append, List.length_cons, List.length_nil, Nat.zero_add, Nat.add_zero, Int.natCast_zero, Int.natCast_add, Int.zero_add, ints_1, ints_0, ] at ih' hin
      rw [lp_eq lp24_12]
      simp (config := { maxSteps := 1000000 }) (disch := omega) only [push_cast, ↓reduceIte, Nat.reduceEqDiff, Nat.reduceAdd, Nat.reduceLT, Nat.reduceLeDiff, Nat.reduceBEq, Nat.reduceMul, Nat.reduceSub, Int.reduceToNat, Int.reduceEq, Int.reduceLT, Int.reduceLE, Int.reduceNeg, Int.reduceAdd, Int.reduceSub, Int.reduceMul, Try.f24, kr24, kp24_17, kp24_12, kp24_4, ow24_17, ow24_12, ow24_4, ty3, ty4, ty9, ty22, ty23, ty27, ty34, ty36, tb4, g1, g8, ps0 g2, ps1 g2, ps2 g2, ps3 g2, ps4 g2, hv, hk, hx, hin, ih']
    · rw [if_neg hx] at h3 ⊢
      have ih' := ih (i + 1) out t g3 h2 (by omega)
      simp only [cast1, List.length_append, List.length_cons, List.length_nil, Nat.zero_add, Nat.add_zero, Int.natCast_zero, Int.natCast_add, Int.zero_add, ints_1, ints_0, ] at ih'
      rw [lp_eq lp24_12]
      simp (config := { maxSteps := 1000000 }) (disch := omega) only [push_cast, ↓reduceIte, Nat.reduceEqDiff, Nat.reduceAdd, Nat.reduceLT, Nat.reduceLeDiff, Nat.reduceBEq, Nat.reduceMul, Nat.reduceSub, Int.reduceToNat, Int.reduceEq, Int.reduceLT, Int.reduceLE, Int.reduceNeg, Int.reduceAdd, Int.reduceSub, Int.reduceMul, Try.f24, kr24, kp24_17, kp24_12, kp24_4, ow24_17, ow24_12, ow24_4, ty3, ty4, ty9, ty22, ty23, ty27, ty34, ty36, tb4, g1, g8, ps0 g2, ps1 g2, ps2 g2, ps3 g2, ps4 g2, hv, hk, hx, ih']
theorem r_Leave (n : Int) (hm : (m.length : Int) ≤ 40000) (hlb : (l.length : Int) ≤ 9223372036854775806) (hb : ∀ p ∈ l, bdP p) :
    CALL 24 [SL b cm m.length (ints m), PsT q c l, I n] = some (.tup [.sl 0 0 (levR m l n).length 1 none, I (errL m l n)], [ints (levR m l n)]) := by
  have h1 := r_isPasses q c l hlb hb
  have hr := roomQ_bd l
  unfold levR errL
  refine lim_run (fn := Try.f24) fn24 rfl body24 (Nat.le_of_ble_eq_true rfl) ok24 ?_
  by_cases ho : okAll l
  · have h0 := ho.1
    have h3 := r_room q c l (by omega) hb ho.2
    by_cases k1 : n < 0
    · have e : ¬ (((0 ≤ n ∧ n ≤ 4000) ∧ (m.length : Int) = n + roomQ l ∧ (m.length : Int) ≤ 16000) ∧ okAll l) := fun h => by omega
      rw [if_neg e]
      simp (config := { maxSteps := 1000000 }) (disch := omega) only [push_cast, ↓reduceIte, Nat.reduceEqDiff, Nat.reduceAdd, Nat.reduceLT, Nat.reduceLeDiff, Nat.reduceBEq, Nat.reduceMul, Nat.reduceSub, Int.reduceToNat, Int.reduceEq, Int.reduceLT, Int.reduceLE, Int.reduceNeg, Int.reduceAdd, Int.reduceSub, Int.reduceMul, Try.f24, kr24, kp24_17, kp24_12, kp24_4, ow24_17, ow24_12, ow24_4, ty3, ty4, ty9, ty22, ty23, ty27, ty34, ty36, tb4, h1, ho, k1]
    · by_cases k2 : 4000 < n
      · have e : ¬ (((0 ≤ n ∧ n ≤ 4000) ∧ (m.length : Int) = n + roomQ l ∧ (m.length : Int) ≤ 16000) ∧ okAll l) := fun h => by omega
        rw [if_neg e]
        simp (config := { maxSteps := 1000000 }) (disch := omega) only [push_cast, ↓reduceIte, Nat.reduceEqDiff, Nat.reduceAdd, Nat.reduceLT, Nat.reduceLeDiff, Nat.reduceBEq, Nat.reduceMul, Nat.reduceSub, Int.reduceToNat, Int.reduceEq, Int.reduceLT, Int.reduceLE, Int.reduceNeg, Int.reduceAdd, Int.reduceSub, Int.reduceMul, Try.f24, kr24, kp24_17, kp24_12, kp24_4, ow24_17, ow24_12, ow24_4, ty3, ty4, ty9, ty22, ty23, ty27, ty34, ty36, tb4, h1, ho, k1, k2]
      · obtain ⟨n, rfl⟩ : ∃ k : Nat, n = k := ⟨n.toNat, by omega⟩
        by_cases k5 : (m.length : Int) = n + roomQ l
        · by_cases k4 : 16000 < (m.length : Int)
          · have e : ¬ (((0 ≤ (n : Int) ∧ (n : Int) ≤ 4000) ∧ (m.length : Int) = n + roomQ l ∧ (m.length : Int) ≤ 16000) ∧ okAll l) := fun h => by omega
            rw [if_neg e]
            simp (config := { maxSteps := 1000000 }) (disch := omega) only [push_cast, ↓reduceIte, Nat.reduceEqDiff, Nat.reduceAdd, Nat.reduceLT, Nat.reduceLeDiff, Nat.reduceBEq, Nat.reduceMul, Nat.reduceSub, Int.reduceToNat, Int.reduceEq, Int.reduceLT, Int.reduceLE, Int.reduceNeg, Int.reduceAdd, Int.reduceSub, Int.reduceMul, Try.f24, kr24, kp24_17, kp24_12, kp24_4, ow24_17, ow24_12, ow24_4, ty3, ty4, ty9, ty22, ty23, ty27, ty34, ty36, tb4, h1, ho, k1, k2, k4, k5.symm, h3]
          · have e : (((0 ≤ (n : Int) ∧ (n : Int) ≤ 4000) ∧ (m.length : Int) = n + roomQ l ∧ (m.length : Int) ≤ 16000) ∧ okAll l) := ⟨by omega, ho⟩
            rw [if_pos e]
            have htl : (m.take n).length = n := by rw [List.length_take]; omega
            have hl := rl_Leave4 q b c cm m l n (by omega) (by omega) (by omega) (by omega) hb l 0 rfl
            have k6 : (n : Int) ≤ m.length := by omega
            simp only [cast1, List.length_append, List.length_cons, List.length_nil, Nat.zero_add, Nat.add_zero, Int.natCast_zero, Int.natCast_add, Int.zero_add, ints_1, ints_0, ] at hl
            by_cases he : errA n l = 0
            · rw [if_pos he] at hl
              have hA := errA_mem he
              have hpl : ∀ p ∈ l, ∀ x ∈ plP p, 0 ≤ x ∧ x < n := fun p hp x hx => plI_bd (hb p hp).1 (by rw [plI_of (hA p hp)]; exact hx)
              have hl2 := rl_Leave12 q b c cm m l (by omega) (by omega) hb ho.2 n (by omega) (fun p hp x hx => by have := hpl p hp x hx; omega) l 0 m n rfl rfl (by have := roomN_eq l; omega)
              have sp : levQ m l m n = levQ m l (m.take n) n ++ m.drop n := by
                have := levQ_app m (m.drop n) l (m.take n) n (fun p hp x hx => by rw [htl]; exact hpl p hp x hx)
                rwa [List.take_append_drop] at this
              rw [sp] at hl2
              simp only [cast1, List.length_append, List.length_cons, List.length_nil, Nat.zero_add, Nat.add_zero, Int.natCast_zero, Int.natCast_add, Int.zero_add, ints_1, ints_0, ] at hl2
              have rw' : rowAt (ints (levQ m l (m.take n) n ++ m.drop n)) 0 n = ints (levQ m l (m.take n) n) := by
                unfold rowAt ints
                rw [List.drop_zero, List.map_append, List.take_append_of_le_length (by rw [List.length_map, levQ_len, htl]; omega), List.take_of_length_le (by rw [List.length_map, levQ_len, htl]; omega)]
              simp (config := { maxSteps := 1000000 }) (disch := omega) only [push_cast, ↓reduceIte, Nat.reduceEqDiff, Nat.reduceAdd, Nat.reduceLT, Nat.reduceLeDiff, Nat.reduceBEq, Nat.reduceMul, Nat.reduceSub, Int.reduceToNat, Int.reduceEq, Int.reduceLT, Int.reduceLE, Int.reduceNeg, Int.reduceAdd, Int.reduceSub, Int.reduceMul, Try.f24, kr24, kp24_17, kp24_12, kp24_4, ow24_17, ow24_12, ow24_4, ty3, ty4, ty9, ty22, ty23, ty27, ty34, ty36, tb4, h1, ho, k1, k2, k4, k5.symm, h3, hl, k6, Nat.sub_zero, he, hl2, levQ_len, htl, rw']
            · rw [if_neg he] at hl
              simp (config := { maxSteps := 1000000 }) (disch := omega) only [push_cast, ↓reduceIte, Nat.reduceEqDiff, Nat.reduceAdd, Nat.reduceLT, Nat.reduceLeDiff, Nat.reduceBEq, Nat.reduceMul, Nat.reduceSub, Int.reduceToNat, Int.reduceEq, Int.reduceLT, Int.reduceLE, Int.reduceNeg, Int.reduceAdd, Int.reduceSub, Int.reduceMul, Try.f24, kr24, kp24_17, kp24_12, kp24_4, ow24_17, ow24_12, ow24_4, ty3, ty4, ty9, ty22, ty23, ty27, ty34, ty36, tb4, h1, ho, k1, k2, k4, k5.symm, h3, hl, k6, Nat.sub_zero, he]
        · have e : ¬ (((0 ≤ (n : Int) ∧ (n : Int) ≤ 4000) ∧ (m.length : Int) = n + roomQ l ∧ (m.length : Int) ≤ 16000) ∧ okAll l) := fun h => k5 h.1.2.1
          rw [if_neg e]
          simp (config := { maxSteps := 1000000 }) (disch := omega) only [push_cast, ↓reduceIte, Nat.reduceEqDiff, Nat.reduceAdd, Nat.reduceLT, Nat.reduceLeDiff, Nat.reduceBEq, Nat.reduceMul, Nat.reduceSub, Int.reduceToNat, Int.reduceEq, Int.reduceLT, Int.reduceLE, Int.reduceNeg, Int.reduceAdd, Int.reduceSub, Int.reduceMul, Try.f24, kr24, kp24_17, kp24_12, kp24_4, ow24_17, ow24_12, ow24_4, ty3, ty4, ty9, ty22, ty23, ty27, ty34, ty36, tb4, h1, ho, k1, k2, k5, h3]
  · have e : ¬ (((0 ≤ n ∧ n ≤ 4000) ∧ (m.length : Int) = n + roomQ l ∧ (m.length : Int) ≤ 16000) ∧ okAll l) := fun h => ho h.2
    rw [if_neg e]
    simp (config := { maxSteps := 1000000 }) (disch := omega) only [push_cast, ↓reduceIte, Nat.reduceEqDiff, Nat.reduceAdd, Nat.reduceLT, Nat.reduceLeDiff, Nat.reduceBEq, Nat.reduceMul, Nat.reduceSub, Int.reduceToNat, Int.reduceEq, Int.reduceLT, Int.reduceLE, Int.reduceNeg, Int.reduceAdd, Int.reduceSub, Int.reduceMul, Try.f24, kr24, kp24_17, kp24_12, kp24_4, ow24_17, ow24_12, ow24_4, ty3, ty4, ty9, ty22, ty23, ty27, ty34, ty36, tb4, h1, ho]
end
end Go.Proofs.Ytochkebkfoophaa.Tev
