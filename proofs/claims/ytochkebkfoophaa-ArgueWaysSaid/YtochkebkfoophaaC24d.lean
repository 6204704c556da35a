/- Enter; the document's. -/
import Derived.Test.YtochkebkfoophaaC24c
import Derived.Test.YtochkebkfoophaaCWh
namespace Go.Proofs.Ytochkebkfoophaa.Tev
open Go Go.RowKit Go.Proofs Go.Proofs.Ytochkebkfoophaa.Q
set_option linter.unusedSectionVars false
set_option maxRecDepth 100000
set_option maxHeartbeats 0
set_option linter.unusedSimpArgs false
set_option linter.unusedVariables false
theorem sizeD_bd (b : Int) (E S : List Int) : 0 ≤ sizeD b E S ∧ sizeD b E S ≤ 4000 := by
  unfold sizeD
  split
  · rename_i h
    exact ⟨pr_nonneg fun e he => (h.1.2 e he).1, h.2.1⟩
  · omega
def szP (p : PassQ) : Int := sizeD p.1.1 p.1.2.1 p.1.2.2
/-- How many elements are packed. -/
def roomQ : List PassQ → Int
  | [] => 0
  | p :: r => (if packedQ p = true then szP p else 0) + roomQ r
theorem roomQ_bd : ∀ (l : List PassQ), 0 ≤ roomQ l ∧ roomQ l ≤ 4000 * (l.length : Int)
  | [] => by simp [roomQ]
  | p :: r => by
    have h1 := roomQ_bd r
    have h2 := sizeD_bd p.1.1 p.1.2.1 p.1.2.2
    simp only [roomQ, szP, List.length_cons]
    split <;> push_cast <;> omega
def packP (m : List Int) (p : PassQ) : List Int := packQ m p.1.1 p.1.2.1 p.1.2.2
theorem packQ_len (m : List Int) (b : Int) (E S : List Int) : (packQ m b E S).length ≤ 4000 := by
  unfold packQ
  split
  · rw [pickM_len]; exact placesQ_len b E S
  · simp
/-- The memory with what is packed, and what is seen. -/
def entQ (m : List Int) : List PassQ → List Int × List DscQ → List Int × List DscQ
  | [], s => s
  | p :: r, s => entQ m r (if packedQ p = true then (s.1 ++ packP m p, s.2 ++ [((s.1.length : Int), wholeE p.1.2.1, wholeT p.1.2.1)]) else (s.1, s.2 ++ [p.1]))
abbrev nilC : T := .c (.s (some 0) 0 [])
theorem r_Copy (base : Int) (b1 b2 : Bool) (c1 c2 : Option Nat) (E S : List Int) (hE : E.length ≤ 4000) (hS : S.length ≤ 4000) : CALL 40 [Dsc base b1 c1 E b2 c2 S] = some (.agg [I base, .sl 0 0 E.length 1 none, .sl 1 0 S.length 1 none], [ints E, ints S]) := by
  refine lim_run (fn := Try.f40) fn40 rfl body40 (Nat.le_of_ble_eq_true rfl) ok40 ?_
  simp (config := { maxSteps := 1000000 }) (disch := omega) only [push_cast, ↓reduceIte, Nat.reduceEqDiff, Nat.reduceAdd, Nat.reduceLT, Nat.reduceLeDiff, Nat.reduceBEq, Nat.reduceMul, Nat.reduceSub, Int.reduceToNat, Int.reduceEq, Int.reduceLT, Int.reduceLE, Int.reduceNeg, Int.reduceAdd, Int.reduceSub, Int.reduceMul, Try.f40, kr40, ty3, ty22, ty34]
theorem l_Enter8 (q b : Bool) (c cm : Option Nat) (m : List Int) (l : List PassQ) (hl : l.length ≤ 8) (hb : ∀ p ∈ l, bdP p) : ∀ (r : List PassQ) (i : Nat) (a : Int), l.drop i = r → 0 ≤ a → a ≤ 4000 + 4000 * (i : Int) →
    lp E0 pr0 11 8 ⟨[(0, SL b cm m.length (ints m)), (1, PsT q c l), (5, nilC), (8, I a), (29, PsT q c l), (30, I l.length), (31, I i)], [], 0⟩ =
      some (.exit 0, ⟨[(0, SL b cm m.length (ints m)), (1, PsT q c l), (5, nilC), (8, I (a + roomQ r))], [], 0⟩) := by
  intro r
  induction r with
  | nil =>
    intro i a h1 h2 h3
    have h5 := drop_nil h1
    have h6 : ¬ (i : Int) < l.length := by omega
    rw [lp_eq lp11_8]
    simp (config := { maxSteps := 1000000 }) (disch := omega) only [push_cast, ↓reduceIte, Nat.reduceEqDiff, Nat.reduceAdd, Nat.reduceLT, Nat.reduceLeDiff, Nat.reduceBEq, Nat.reduceMul, Nat.reduceSub, Int.reduceToNat, Int.reduceEq, Int.reduceLT, Int.reduceLE, Int.reduceNeg, Int.reduceAdd, Int.reduceSub, Int.reduceMul, Try.f11, kr11, kp11_21, kp11_8, ow11_21, ow11_8, ty3, ty4, ty9, ty22, ty23, ty26, ty27, ty34, ty36, tb4, h6, roomQ, Int.add_zero]
  | cons p r ih =>
    intro i a h1 h2 h3
    obtain ⟨g1, g2, g3⟩ := drop_cons h1
    have g8 : (i : Int) < l.length := by omega
    have hp := hb p (List.mem_of_getElem? g2)
    have hv := c_Size p.1.1 true true none none p.1.2.1 p.1.2.2 hp.2.1 hp.2.2
    have hk := c_packed true true none none p hp
    have e0 := sizeD_bd p.1.1 p.1.2.1 p.1.2.2
    rw [lp_eq lp11_8]
    unfold roomQ szP
    by_cases hx : packedQ p = true
    · have ih' := ih (i + 1) (a + sizeD p.1.1 p.1.2.1 p.1.2.2) g3 (by omega) (by push_cast; omega)
      simp only [cast1, List.length_append, List.length_cons, List.length_nil, Nat.zero_add, Nat.add_zero, Int.natCast_zero, Int.natCast_add, Int.zero_add, ints_1, ints_0, ] at ih'
      simp (config := { maxSteps := 1000000 }) (disch := omega) only [push_cast, ↓reduceIte, Nat.reduceEqDiff, Nat.reduceAdd, Nat.reduceLT, Nat.reduceLeDiff, Nat.reduceBEq, Nat.reduceMul, Nat.reduceSub, Int.reduceToNat, Int.reduceEq, Int.reduceLT, Int.reduceLE, Int.reduceNeg, Int.reduceAdd, Int.reduceSub, Int.reduceMul, Try.f11, kr11, kp11_21, kp11_8, ow11_21, ow11_8, ty3, ty4, ty9, ty22, ty23, ty26, ty27, ty34, ty36, tb4, g1, g8, ps0 g2, ps1 g2, ps2 g2, ps3 g2, ps4 g2, hv, hk, hx, ih', Int.add_assoc]
    · have ih' := ih (i + 1) a g3 (by omega) (by push_cast; omega)
      simp only [cast1, List.length_append, List.length_cons, List.length_nil, Nat.zero_add, Nat.add_zero, Int.natCast_zero, Int.natCast_add, Int.zero_add, ints_1, ints_0, ] at ih'
      simp (config := { maxSteps := 1000000 }) (disch := omega) only [push_cast, ↓reduceIte, Nat.reduceEqDiff, Nat.reduceAdd, Nat.reduceLT, Nat.reduceLeDiff, Nat.reduceBEq, Nat.reduceMul, Nat.reduceSub, Int.reduceToNat, Int.reduceEq, Int.reduceLT, Int.reduceLE, Int.reduceNeg, Int.reduceAdd, Int.reduceSub, Int.reduceMul, Try.f11, kr11, kp11_21, kp11_8, ow11_21, ow11_8, ty3, ty4, ty9, ty22, ty23, ty26, ty27, ty34, ty36, tb4, g1, g8, ps0 g2, ps1 g2, ps2 g2, ps3 g2, ps4 g2, hv, hk, hx, ih', Int.zero_add]
theorem l_Enter21 (q b : Bool) (c cm : Option Nat) (m : List Int) (l : List PassQ) (hm : m.length ≤ 4000) (hl : l.length ≤ 8) (hb : ∀ p ∈ l, bdP p) (ho : ∀ p ∈ l, okPs p) : ∀ (r : List PassQ) (i : Nat) (out : List Int) (av : List DscQ), l.drop i = r → av.length = i → (out.length : Int) ≤ 4000 + 4000 * (i : Int) →
    lp E0 pr0 11 21 ⟨[(0, SL b cm m.length (ints m)), (4, .sl 0 0 out.length 1 none), (5, .sl 1 0 av.length 3 none), (57, PsT q c l), (58, I l.length), (59, I i)], [(0, .arr (ints out) 0 1), (1, .arr (av.flatMap dscC) 1 1)], 2⟩ =
      some (.exit 2, ⟨[(4, .sl 0 0 (entQ m r (out, av)).1.length 1 none), (5, .sl 1 0 (entQ m r (out, av)).2.length 3 none)], [(0, .arr (ints (entQ m r (out, av)).1) 0 1), (1, .arr ((entQ m r (out, av)).2.flatMap dscC) 1 1)], 2⟩) := by
  intro r
  induction r with
  | nil =>
    intro i out av h1 h2 h3
    have h5 := drop_nil h1
    have h6 : ¬ (i : Int) < l.length := by omega
    rw [lp_eq lp11_21]
    simp (config := { maxSteps := 1000000 }) (disch := omega) only [push_cast, ↓reduceIte, Nat.reduceEqDiff, Nat.reduceAdd, Nat.reduceLT, Nat.reduceLeDiff, Nat.reduceBEq, Nat.reduceMul, Nat.reduceSub, Int.reduceToNat, Int.reduceEq, Int.reduceLT, Int.reduceLE, Int.reduceNeg, Int.reduceAdd, Int.reduceSub, Int.reduceMul, Try.f11, kr11, kp11_21, kp11_8, ow11_21, ow11_8, ty3, ty4, ty9, ty22, ty23, ty26, ty27, ty34, ty36, tb4, h6, entQ]
  | cons p r ih =>
    intro i out av h1 h2 h3
    obtain ⟨g1, g2, g3⟩ := drop_cons h1
    have g8 : (i : Int) < l.length := by omega
    have hp := hb p (List.mem_of_getElem? g2)
    have hq := (ho p (List.mem_of_getElem? g2)).1
    have x1 := hq.1.1
    have x2 := hq.2.2.1
    have hc1 := c_Clone true none p.1.2.1 (by omega)
    have hc2 := c_Clone true none p.1.2.2 (by omega)
    have hk := c_packed true true none none p hp
    have fl := flat_len dscC_len av
    rw [lp_eq lp11_21]
    unfold entQ
    by_cases hx : packedQ p = true
    · have hw := c_Whole true none p.1.2.1 hp.2.1
      have hpk := c_Pack p.1.1 b true true cm none none m p.1.2.1 p.1.2.2 hp.2.1 hp.2.2 (by omega) hp.1
      have n1 := packQ_len m p.1.1 p.1.2.1 p.1.2.2
      have ih' := ih (i + 1) (out ++ packP m p) (av ++ [((out.length : Int), wholeE p.1.2.1, wholeT p.1.2.1)]) g3 (by simp [h2]) (by unfold packP; push_cast [List.length_append]; omega)
      have e : (av ++ [((out.length : Int), wholeE p.1.2.1, wholeT p.1.2.1)]).flatMap dscC = av.flatMap dscC ++ [CI out.length, .s none (wholeE p.1.2.1).length (ints (wholeE p.1.2.1)), .s none (wholeT p.1.2.1).length (ints (wholeT p.1.2.1))] := by simp [dscC]
      rw [e] at ih'
      unfold packP at ih' ⊢
      simp only [cast1, List.length_append, List.length_cons, List.length_nil, Nat.zero_add, Nat.add_zero, Int.natCast_zero, Int.natCast_add, Int.zero_add, ints_1, ints_0, ] at ih'
      rw [if_pos hx]
      simp (config := { maxSteps := 1000000 }) (disch := omega) only [push_cast, ↓reduceIte, Nat.reduceEqDiff, Nat.reduceAdd, Nat.reduceLT, Nat.reduceLeDiff, Nat.reduceBEq, Nat.reduceMul, Nat.reduceSub, Int.reduceToNat, Int.reduceEq, Int.reduceLT, Int.reduceLE, Int.reduceNeg, Int.reduceAdd, Int.reduceSub, Int.reduceMul, Try.f11, kr11, kp11_21, kp11_8, ow11_21, ow11_8, ty3, ty4, ty9, ty22, ty23, ty26, ty27, ty34, ty36, tb4, g1, g8, ps0 g2, ps1 g2, ps2 g2, ps3 g2, ps4 g2, hc1, hc2, hk, hw, hpk, hx, fl, ih']
    · have ih' := ih (i + 1) out (av ++ [p.1]) g3 (by simp [h2]) (by push_cast; omega)
      have e : (av ++ [p.1]).flatMap dscC = av.flatMap dscC ++ [CI p.1.1, .s none p.1.2.1.length (ints p.1.2.1), .s none p.1.2.2.length (ints p.1.2.2)] := by simp [dscC]
      rw [e] at ih'
      simp only [cast1, List.length_append, List.length_cons, List.length_nil, Nat.zero_add, Nat.add_zero, Int.natCast_zero, Int.natCast_add, Int.zero_add, ints_1, ints_0, ] at ih'
      rw [if_neg hx]
      simp (config := { maxSteps := 1000000 }) (disch := omega) only [push_cast, ↓reduceIte, Nat.reduceEqDiff, Nat.reduceAdd, Nat.reduceLT, Nat.reduceLeDiff, Nat.reduceBEq, Nat.reduceMul, Nat.reduceSub, Int.reduceToNat, Int.reduceEq, Int.reduceLT, Int.reduceLE, Int.reduceNeg, Int.reduceAdd, Int.reduceSub, Int.reduceMul, Try.f11, kr11, kp11_21, kp11_8, ow11_21, ow11_8, ty3, ty4, ty9, ty22, ty23, ty26, ty27, ty34, ty36, tb4, g1, g8, ps0 g2, ps1 g2, ps2 g2, ps3 g2, ps4 g2, hc1, hc2, hk, hx, fl, ih']
def errEnt (m : List Int) (l : List PassQ) : Int := if 4000 < (m.length : Int) then 2 else if okAll l then (if 16000 < (m.length : Int) + roomQ l then 2 else errA m.length l) else 2
def entR (m : List Int) (l : List PassQ) : List Int × List DscQ := if errEnt m l = 0 then entQ m l (m, []) else ([], [])
theorem c_Enter (q b : Bool) (c cm : Option Nat) (m : List Int) (l : List PassQ) (hm : (m.length : Int) ≤ 9223372036854775806) (hb : ∀ p ∈ l, bdP p) :
    CALL 11 [SL b cm m.length (ints m), PsT q c l] = some (.tup [.sl 0 0 (entR m l).1.length 1 none, .sl 1 0 (entR m l).2.length 3 none, I (errEnt m l)], [ints (entR m l).1, (entR m l).2.flatMap dscC]) := by
  have h1 := c_valid q c l hb
  unfold entR errEnt
  refine lim_run (fn := Try.f11) fn11 rfl body11 (Nat.le_of_ble_eq_true rfl) ok11 ?_
  by_cases hn : 4000 < (m.length : Int)
  · simp (config := { maxSteps := 1000000 }) (disch := omega) only [push_cast, ↓reduceIte, Nat.reduceEqDiff, Nat.reduceAdd, Nat.reduceLT, Nat.reduceLeDiff, Nat.reduceBEq, Nat.reduceMul, Nat.reduceSub, Int.reduceToNat, Int.reduceEq, Int.reduceLT, Int.reduceLE, Int.reduceNeg, Int.reduceAdd, Int.reduceSub, Int.reduceMul, Try.f11, kr11, kp11_21, kp11_8, ow11_21, ow11_8, ty3, ty4, ty9, ty22, ty23, ty26, ty27, ty34, ty36, tb4, List.flatMap_nil, hn]
  · by_cases ho : okAll l
    · have h0 := ho.1
      have hl := l_Enter8 q b c cm m l (by omega) hb l 0 m.length rfl (by omega) (by push_cast; omega)
      have hr := roomQ_bd l
      simp only [cast1, List.length_append, List.length_cons, List.length_nil, Nat.zero_add, Nat.add_zero, Int.natCast_zero, Int.natCast_add, Int.zero_add, ints_1, ints_0, ] at hl
      by_cases hr2 : 16000 < (m.length : Int) + roomQ l
      · simp (config := { maxSteps := 1000000 }) (disch := omega) only [push_cast, ↓reduceIte, Nat.reduceEqDiff, Nat.reduceAdd, Nat.reduceLT, Nat.reduceLeDiff, Nat.reduceBEq, Nat.reduceMul, Nat.reduceSub, Int.reduceToNat, Int.reduceEq, Int.reduceLT, Int.reduceLE, Int.reduceNeg, Int.reduceAdd, Int.reduceSub, Int.reduceMul, Try.f11, kr11, kp11_21, kp11_8, ow11_21, ow11_8, ty3, ty4, ty9, ty22, ty23, ty26, ty27, ty34, ty36, tb4, List.flatMap_nil, hn, ho, h1, hl, hr2]
      · have ha := c_all q b c cm m l hm hb ho
        have hc := c_Clone b cm m (by omega)
        by_cases he : errA m.length l = 0
        · rw [he] at ha
          have hl2 := l_Enter21 q b c cm m l (by omega) (by omega) hb ho.2 l 0 m [] rfl rfl (by push_cast; omega)
          rw [List.flatMap_nil] at hl2
          simp only [cast1, List.length_append, List.length_cons, List.length_nil, Nat.zero_add, Nat.add_zero, Int.natCast_zero, Int.natCast_add, Int.zero_add, ints_1, ints_0, ] at hl2
          have fl := flat_len dscC_len (entQ m l (m, [])).2
          simp (config := { maxSteps := 1000000 }) (disch := omega) only [push_cast, ↓reduceIte, Nat.reduceEqDiff, Nat.reduceAdd, Nat.reduceLT, Nat.reduceLeDiff, Nat.reduceBEq, Nat.reduceMul, Nat.reduceSub, Int.reduceToNat, Int.reduceEq, Int.reduceLT, Int.reduceLE, Int.reduceNeg, Int.reduceAdd, Int.reduceSub, Int.reduceMul, Try.f11, kr11, kp11_21, kp11_8, ow11_21, ow11_8, ty3, ty4, ty9, ty22, ty23, ty26, ty27, ty34, ty36, tb4, List.flatMap_nil, hn, ho, h1, hl, hr2, ha, hc, he, hl2, fl]
        · simp (config := { maxSteps := 1000000 }) (disch := omega) only [push_cast, ↓reduceIte, Nat.reduceEqDiff, Nat.reduceAdd, Nat.reduceLT, Nat.reduceLeDiff, Nat.reduceBEq, Nat.reduceMul, Nat.reduceSub, Int.reduceToNat, Int.reduceEq, Int.reduceLT, Int.reduceLE, Int.reduceNeg, Int.reduceAdd, Int.reduceSub, Int.reduceMul, Try.f11, kr11, kp11_21, kp11_8, ow11_21, ow11_8, ty3, ty4, ty9, ty22, ty23, ty26, ty27, ty34, ty36, tb4, List.flatMap_nil, hn, ho, h1, hl, hr2, ha, he]
    · simp (config := { maxSteps := 1000000 }) (disch := omega) only [push_cast, ↓reduceIte, Nat.reduceEqDiff, Nat.reduceAdd, Nat.reduceLT, Nat.reduceLeDiff, Nat.reduceBEq, Nat.reduceMul, Nat.reduceSub, Int.reduceToNat, Int.reduceEq, Int.reduceLT, Int.reduceLE, Int.reduceNeg, Int.reduceAdd, Int.reduceSub, Int.reduceMul, Try.f11, kr11, kp11_21, kp11_8, ow11_21, ow11_8, ty3, ty4, ty9, ty22, ty23, ty26, ty27, ty34, ty36, tb4, List.flatMap_nil, hn, ho, h1]
abbrev aw1 : PassQ := ((0, [3], [2]), ByteArray.mk #[97, 117, 116, 111], false)
theorem aw_err : errEnt [1, 2, 3, 4, 5, 6] [aw1] = 0 := by decide
theorem aw_ent : entQ [1, 2, 3, 4, 5, 6] [aw1] ([1, 2, 3, 4, 5, 6], []) = ([1, 2, 3, 4, 5, 6, 1, 3, 5], [(6, [3], [1])]) := by decide
theorem c_Awake : CALL 10 [] = some (B true, []) := by
  have h1 := c_Enter false false (some 1) (some 6) [1, 2, 3, 4, 5, 6] [aw1] (by decide) (by intro p hp; simp at hp; subst hp; exact ⟨by decide, by decide, by decide⟩)
  unfold entR at h1
  rw [aw_err, if_pos rfl, aw_ent] at h1
  have h2 := r_SameInts false false none (some 9) [1, 2, 3, 4, 5, 6, 1, 3, 5] [1, 2, 3, 4, 5, 6, 1, 3, 5] (by decide)
  rw [decide_eq_true rfl] at h2
  refine lim_run (fn := Try.f10) fn10 rfl body10 (Nat.le_of_ble_eq_true rfl) ok10 ?_
  simp only [PsT, aw1, ints, List.map_cons, List.map_nil, List.flatMap_cons, List.flatMap_nil, passC, dscC, List.append_nil, List.length_cons, List.length_nil, Nat.zero_add, Nat.reduceAdd] at h1 h2
  have r1 : ∀ (x1 x2 x3 x4 x5 x6 : C), rowAt [x1, x2, x3, x4, x5, x6] 0 6 = [x1, x2, x3, x4, x5, x6] := fun _ _ _ _ _ _ => rfl
  have r2 : ∀ (x1 x2 x3 x4 x5 x6 x7 x8 x9 : C), rowAt [x1, x2, x3, x4, x5, x6, x7, x8, x9] 0 9 = [x1, x2, x3, x4, x5, x6, x7, x8, x9] := fun _ _ _ _ _ _ _ _ _ => rfl
  simp (config := { maxSteps := 1000000 }) (disch := omega) only [push_cast, ↓reduceIte, Nat.reduceEqDiff, Nat.reduceAdd, Nat.reduceLT, Nat.reduceLeDiff, Nat.reduceBEq, Nat.reduceMul, Nat.reduceSub, Int.reduceToNat, Int.reduceEq, Int.reduceLT, Int.reduceLE, Int.reduceNeg, Int.reduceAdd, Int.reduceSub, Int.reduceMul, Try.f10, kr10, ty3, ty4, ty9, ty22, ty23, ty26, ty34, ty36, tb4, h1, h2, r1, r2]
end Go.Proofs.Ytochkebkfoophaa.Tev
