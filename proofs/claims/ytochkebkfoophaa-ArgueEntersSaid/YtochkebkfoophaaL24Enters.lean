/- The law ArgueEnters: what it returns for any input. -/
import Derived.Test.YtochkebkfoophaaL24Sees
import Derived.Test.YtochkebkfoophaaC24h
namespace Go.Proofs.Ytochkebkfoophaa.Tev
open Go Go.RowKit Go.Proofs Go.Proofs.Ytochkebkfoophaa.Q
set_option linter.unusedSectionVars false
set_option maxRecDepth 100000
set_option maxHeartbeats 0
set_option linter.unusedSimpArgs false
set_option linter.unusedVariables false
theorem seg_mid : ∀ (X o t : List Int), segQ (o ++ (X ++ t)) o.length X.length = X
  | [], o, t => rfl
  | x :: X, o, t => by
    have ih := seg_mid X (o ++ [x]) t
    rw [List.length_cons, segQ]
    rw [List.append_assoc, List.length_append] at ih
    simp only [List.length_cons, List.length_nil, List.singleton_append, Nat.zero_add] at ih
    rw [List.cons_append, ih]
    congr 1
    simp
theorem packP_eq {m : List Int} {p : PassQ} (h : errP m p.1.1 p.1.2.1 p.1.2.2 = 0) : packP m p = pickM m (plP p) := by
  unfold packP packQ
  rw [if_pos h]; rfl
theorem lev_back (m : List Int) : ∀ (r : List PassQ) (out : List Int) (av : List DscQ), (∀ p ∈ r, errP m p.1.1 p.1.2.1 p.1.2.2 = 0) → levQ (entQ m r (out, av)).1 r m out.length = m ∧ (entQ m r (out, av)).1.length = out.length + roomN r
  | [], out, av, _ => ⟨rfl, rfl⟩
  | p :: r, out, av, h => by
    have hp := packP_eq (h p (by simp))
    have hr : ∀ q ∈ r, errP m q.1.1 q.1.2.1 q.1.2.2 = 0 := fun q hq => h q (by simp [hq])
    by_cases hx : packedQ p = true
    · have hc : entQ m (p :: r) (out, av) = entQ m r (out ++ packP m p, av ++ [((out.length : Int), wholeE p.1.2.1, wholeT p.1.2.1)]) := by rw [entQ, if_pos hx]
      obtain ⟨⟨t, h1⟩, _⟩ := ent_spec m r (out ++ packP m p) (av ++ [((out.length : Int), wholeE p.1.2.1, wholeT p.1.2.1)])
      obtain ⟨i1, i2⟩ := lev_back m r (out ++ packP m p) (av ++ [((out.length : Int), wholeE p.1.2.1, wholeT p.1.2.1)]) hr
      have hl : (packP m p).length = (plP p).length := by rw [hp, pickM_len]
      rw [hc]
      refine ⟨?_, ?_⟩
      · rw [levQ, if_pos hx]
        have sg : segQ (entQ m r (out ++ packP m p, av ++ [((out.length : Int), wholeE p.1.2.1, wholeT p.1.2.1)])).1 out.length (plP p).length = packP m p := by
          rw [h1, List.append_assoc, ← hl, seg_mid]
        have pb : (if chP p = true then putL (plP p) (packP m p) m else m) = m := by
          split
          · rw [hp, put_pick]
          · rfl
        rw [sg, pb]
        rw [List.length_append, hl] at i1
        exact i1
      · rw [i2, List.length_append, hl, roomN, if_pos hx]; omega
    · have hc : entQ m (p :: r) (out, av) = entQ m r (out, av ++ [p.1]) := by rw [entQ, if_neg hx]
      obtain ⟨i1, i2⟩ := lev_back m r out (av ++ [p.1]) hr
      rw [hc, levQ, if_neg hx, i2, roomN, if_neg hx]
      exact ⟨i1, by omega⟩
theorem r_SameD (d : DscQ) (h1 : (d.2.1.length : Int) ≤ 9223372036854775806) (h2 : (d.2.2.length : Int) ≤ 9223372036854775806) : CALL 20 [Dsc d.1 true none d.2.1 true none d.2.2, Dsc d.1 true none d.2.1 true none d.2.2] = some (B true, []) := by
  have s1 := r_SameInts true true none none d.2.1 d.2.1 h1
  have s2 := r_SameInts true true none none d.2.2 d.2.2 h2
  rw [decide_eq_true rfl] at s1 s2
  refine lim_run (fn := Try.f20) fn20 rfl body20 (Nat.le_of_ble_eq_true rfl) ok20 ?_
  simp (config := { maxSteps := 1000000 }) (disch := omega) only [push_cast, ↓reduceIte, Nat.reduceEqDiff, Nat.reduceAdd, Nat.reduceLT, Nat.reduceLeDiff, Nat.reduceBEq, Nat.reduceMul, Nat.reduceSub, Int.reduceToNat, Int.reduceEq, Int.reduceLT, Int.reduceLE, Int.reduceNeg, Int.reduceAdd, Int.reduceSub, Int.reduceMul, Try.f20, kr20, ty3, ty4, ty22, ty34, tb4, s1, s2]
theorem l_same4 (b1 b2 : Bool) (c1 c2 : Option Nat) (D : List DscQ) (hD : (D.length : Int) ≤ 9223372036854775806) (hb : ∀ d ∈ D, (d.2.1.length : Int) ≤ 9223372036854775806 ∧ (d.2.2.length : Int) ≤ 9223372036854775806) : ∀ (r : List DscQ) (i : Nat), D.drop i = r →
    lp E0 pr0 22 4 ⟨[(0, SL b1 c1 D.length (D.flatMap dscC)), (1, SL b2 c2 D.length (D.flatMap dscC)), (5, I i)], [], 0⟩ = some (.exit 0, ⟨[], [], 0⟩) := by
  intro r
  induction r with
  | nil =>
    intro i h1
    have h5 := drop_nil h1
    have h6 : ¬ (i : Int) < D.length := by omega
    rw [lp_eq lp22_4]
    simp (config := { maxSteps := 1000000 }) (disch := omega) only [push_cast, ↓reduceIte, Nat.reduceEqDiff, Nat.reduceAdd, Nat.reduceLT, Nat.reduceLeDiff, Nat.reduceBEq, Nat.reduceMul, Nat.reduceSub, Int.reduceToNat, Int.reduceEq, Int.reduceLT, Int.reduceLE, Int.reduceNeg, Int.reduceAdd, Int.reduceSub, Int.reduceMul, Try.f22, kr22, kp22_4, ow22_4, ty3, ty4, ty22, ty26, ty34, tb4, h6]
  | cons d r ih =>
    intro i h1
    obtain ⟨g1, g2, g3⟩ := drop_cons h1
    have g8 : (i : Int) < D.length := by omega
    have hd := hb d (List.mem_of_getElem? g2)
    have hs := r_SameD d hd.1 hd.2
    have ih' := ih (i + 1) g3
    simp only [cast1, List.length_append, List.length_cons, List.length_nil, Nat.zero_add, Nat.add_zero, Int.natCast_zero, Int.natCast_add, Int.zero_add, ints_1, ints_0, ] at ih'
    rw [lp_eq lp22_4]
    simp (config := { maxSteps := 1000000 }) (disch := omega) only [push_cast, ↓reduceIte, Nat.reduceEqDiff, Nat.reduceAdd, Nat.reduceLT, Nat.reduceLeDiff, Nat.reduceBEq, Nat.reduceMul, Nat.reduceSub, Int.reduceToNat, Int.reduceEq, Int.reduceLT, Int.reduceLE, Int.reduceNeg, Int.reduceAdd, Int.reduceSub, Int.reduceMul, Try.f22, kr22, kp22_4, ow22_4, ty3, ty4, ty22, ty26, ty34, tb4, g1, g8, dc0 g2, dc1 g2, dc2 g2, hs, ih']
theorem c_sameDescs (b1 b2 : Bool) (c1 c2 : Option Nat) (D : List DscQ) (hD : (D.length : Int) ≤ 9223372036854775806) (hb : ∀ d ∈ D, (d.2.1.length : Int) ≤ 9223372036854775806 ∧ (d.2.2.length : Int) ≤ 9223372036854775806) :
    CALL 22 [SL b1 c1 D.length (D.flatMap dscC), SL b2 c2 D.length (D.flatMap dscC)] = some (B true, []) := by
  have h := l_same4 b1 b2 c1 c2 D hD hb D 0 rfl
  simp only [cast1, List.length_append, List.length_cons, List.length_nil, Nat.zero_add, Nat.add_zero, Int.natCast_zero, Int.natCast_add, Int.zero_add, ints_1, ints_0, ] at h
  refine lim_run (fn := Try.f22) fn22 rfl body22 (Nat.le_of_ble_eq_true rfl) ok22 ?_
  simp (config := { maxSteps := 1000000 }) (disch := omega) only [push_cast, ↓reduceIte, Nat.reduceEqDiff, Nat.reduceAdd, Nat.reduceLT, Nat.reduceLeDiff, Nat.reduceBEq, Nat.reduceMul, Nat.reduceSub, Int.reduceToNat, Int.reduceEq, Int.reduceLT, Int.reduceLE, Int.reduceNeg, Int.reduceAdd, Int.reduceSub, Int.reduceMul, Try.f22, kr22, kp22_4, ow22_4, ty3, ty4, ty22, ty26, ty34, tb4, h]
theorem levR_len (m : List Int) (l : List PassQ) (n : Int) : (levR m l n).length ≤ m.length := by
  unfold levR
  split
  · rw [levQ_len, List.length_take]; omega
  · simp
section
variable (m : List Int) (l : List PassQ) (after : List Int)
/-- What is known when Enter has no error. -/
theorem ent_ok (hb : ∀ p ∈ l, bdP p) (h0 : errEnt m l = 0) : entR m l = entQ m l (m, []) ∧ m.length ≤ 4000 ∧ okAll l ∧ (m.length : Int) + roomQ l ≤ 16000 ∧ errA m.length l = 0 := by
  refine ⟨if_pos h0, ?_⟩
  unfold errEnt at h0
  by_cases hn : 4000 < (m.length : Int)
  · rw [if_pos hn] at h0; omega
  · rw [if_neg hn] at h0
    by_cases ho : okAll l
    · rw [if_pos ho] at h0
      by_cases hr : 16000 < (m.length : Int) + roomQ l
      · rw [if_pos hr] at h0; omega
      · rw [if_neg hr] at h0
        exact ⟨by omega, ho, by omega, h0⟩
    · rw [if_neg ho] at h0; omega
theorem back_ok (hb : ∀ p ∈ l, bdP p) (h0 : errEnt m l = 0) : errL (entR m l).1 l m.length = 0 ∧ levR (entR m l).1 l m.length = m := by
  obtain ⟨e1, e2, e3, e4, e5⟩ := ent_ok m l hb h0
  have hA := errA_mem e5
  obtain ⟨k1, k2⟩ := lev_back m l m [] (fun p hp => by unfold errP; rw [if_neg (by omega)]; exact hA p hp)
  obtain ⟨⟨t, k3⟩, _⟩ := ent_spec m l m []
  have hr := roomN_eq l
  have hL : errL (entR m l).1 l m.length = 0 := by
    rw [e1]
    unfold errL
    rw [if_pos ⟨⟨⟨by omega, by omega⟩, by omega, by omega⟩, e3⟩, Int.toNat_natCast, e5]
  refine ⟨hL, ?_⟩
  unfold levR
  rw [if_pos hL, e1, Int.toNat_natCast]
  have : (entQ m l (m, [])).1.take m.length = m := by rw [k3]; simp
  rw [this, k1]
theorem entD_bd (hb : ∀ p ∈ l, bdP p) : (entR m l).1.length ≤ 100000 ∧ (entR m l).2.length ≤ 8 ∧ ∀ d ∈ (entR m l).2, (d.2.1.length : Int) ≤ 9223372036854775806 ∧ (d.2.2.length : Int) ≤ 9223372036854775806 := by
  by_cases h0 : errEnt m l = 0
  · obtain ⟨e1, e2, e3, e4, e5⟩ := ent_ok m l hb h0
    have hA := errA_mem e5
    obtain ⟨_, u, k2, k3, _⟩ := ent_spec m l m []
    have hle := ent_len m l m []
    have e30 := e3.1
    rw [e1]
    have hlen : (entQ m l (m, [])).2.length = l.length := by rw [k2]; simpa using k3
    refine ⟨by omega, by omega, fun d hd => ?_⟩
    obtain ⟨i, hi⟩ := List.getElem?_of_mem hd
    have hil : i < l.length := by
      rcases Nat.lt_or_ge i l.length with h | h
      · exact h
      · rw [List.getElem?_eq_none (by omega)] at hi; simp at hi
    have hp : l[i]? = some l[i] := List.getElem?_eq_getElem hil
    exact (sees_of hp (hb _ (List.mem_of_getElem? hp)) (e3.2 _ (List.mem_of_getElem? hp)) (by omega) (by omega) (hA _ (List.mem_of_getElem? hp)) hi).2.2.2
  · unfold entR
    rw [if_neg h0]
    simp
theorem ArgueEnters_true' (hm : (m.length : Int) ≤ 9223372036854775806) (hlb : (l.length : Int) ≤ 9223372036854775806) (ha : (after.length : Int) ≤ 9223372036854775806) (hb : ∀ p ∈ l, bdP p) :
    CALL 6 [SL true none m.length (ints m), PsT true none l, SL true none after.length (ints after)] = some (B true, []) := by
  have hL := c_Large true true none none m l
  by_cases h1 : 20000 < (m.length : Int)
  · rw [decide_eq_true h1, Bool.true_or] at hL
    refine lim_run (fn := Try.f6) fn6 rfl body6 (Nat.le_of_ble_eq_true rfl) ok6 ?_
    simp (config := { maxSteps := 1000000 }) (disch := omega) only [push_cast, ↓reduceIte, Nat.reduceEqDiff, Nat.reduceAdd, Nat.reduceLT, Nat.reduceLeDiff, Nat.reduceBEq, Nat.reduceMul, Nat.reduceSub, Int.reduceToNat, Int.reduceEq, Int.reduceLT, Int.reduceLE, Int.reduceNeg, Int.reduceAdd, Int.reduceSub, Int.reduceMul, Try.f6, kr6, ty3, ty4, ty22, tb4, hL, c_Awake]
  · rw [decide_eq_false h1, Bool.false_or] at hL
    by_cases h2 : 20 < (l.length : Int)
    · rw [decide_eq_true h2] at hL
      refine lim_run (fn := Try.f6) fn6 rfl body6 (Nat.le_of_ble_eq_true rfl) ok6 ?_
      simp (config := { maxSteps := 1000000 }) (disch := omega) only [push_cast, ↓reduceIte, Nat.reduceEqDiff, Nat.reduceAdd, Nat.reduceLT, Nat.reduceLeDiff, Nat.reduceBEq, Nat.reduceMul, Nat.reduceSub, Int.reduceToNat, Int.reduceEq, Int.reduceLT, Int.reduceLE, Int.reduceNeg, Int.reduceAdd, Int.reduceSub, Int.reduceMul, Try.f6, kr6, ty3, ty4, ty22, tb4, hL, c_Awake]
    · rw [decide_eq_false h2] at hL
      by_cases h3 : 40000 < (after.length : Int)
      · refine lim_run (fn := Try.f6) fn6 rfl body6 (Nat.le_of_ble_eq_true rfl) ok6 ?_
        simp (config := { maxSteps := 1000000 }) (disch := omega) only [push_cast, ↓reduceIte, Nat.reduceEqDiff, Nat.reduceAdd, Nat.reduceLT, Nat.reduceLeDiff, Nat.reduceBEq, Nat.reduceMul, Nat.reduceSub, Int.reduceToNat, Int.reduceEq, Int.reduceLT, Int.reduceLE, Int.reduceNeg, Int.reduceAdd, Int.reduceSub, Int.reduceMul, Try.f6, kr6, ty3, ty4, ty22, tb4, hL, h3, c_Awake]
      · have he := c_Enter true true none none m l hm hb
        have hf := r_Enter true true none none m l hm hlb hb
        have hg := c_Leave true true none none after l m.length ha hb
        have hh := r_Leave true true none none after l m.length (by omega) hlb hb
        obtain ⟨n1, n2, n3⟩ := entD_bd m l hb
        have n4 := levR_len after l m.length
        have s1 := r_SameInts false false none none (entR m l).1 (entR m l).1 (by omega)
        have s2 := c_sameDescs false false none none (entR m l).2 (by omega) n3
        have s3 := r_SameInts false false none none (levR after l m.length) (levR after l m.length) (by omega)
        rw [decide_eq_true rfl] at s1 s3
        have rd : rowAt ((entR m l).2.flatMap dscC) 0 ((entR m l).2.length * 3) = (entR m l).2.flatMap dscC := rowAt_all _ _ (by rw [flat_len dscC_len])
        by_cases h0 : errEnt m l = 0
        · obtain ⟨k1, k2⟩ := back_ok m l hb h0
          have hk := c_Leave true false none none (entR m l).1 l m.length (by omega) hb
          rw [k1, k2] at hk
          have s4 := r_SameInts false true none none m m hm
          rw [decide_eq_true rfl] at s4
          refine lim_run (fn := Try.f6) fn6 rfl body6 (Nat.le_of_ble_eq_true rfl) ok6 ?_
          simp (config := { maxSteps := 1000000 }) (disch := omega) only [push_cast, ↓reduceIte, Nat.reduceEqDiff, Nat.reduceAdd, Nat.reduceLT, Nat.reduceLeDiff, Nat.reduceBEq, Nat.reduceMul, Nat.reduceSub, Int.reduceToNat, Int.reduceEq, Int.reduceLT, Int.reduceLE, Int.reduceNeg, Int.reduceAdd, Int.reduceSub, Int.reduceMul, Try.f6, kr6, ty3, ty4, ty22, tb4, hL, h3, he, hf, rd, hg, hh, s1, s2, s3, s4, h0, hk, c_Awake]
        · refine lim_run (fn := Try.f6) fn6 rfl body6 (Nat.le_of_ble_eq_true rfl) ok6 ?_
          simp (config := { maxSteps := 1000000 }) (disch := omega) only [push_cast, ↓reduceIte, Nat.reduceEqDiff, Nat.reduceAdd, Nat.reduceLT, Nat.reduceLeDiff, Nat.reduceBEq, Nat.reduceMul, Nat.reduceSub, Int.reduceToNat, Int.reduceEq, Int.reduceLT, Int.reduceLE, Int.reduceNeg, Int.reduceAdd, Int.reduceSub, Int.reduceMul, Try.f6, kr6, ty3, ty4, ty22, tb4, hL, h3, he, hf, rd, hg, hh, s1, s2, s3, h0, c_Awake]
end
theorem ArgueEnters_true (m : List Int) (l : List PassQ) (after : List Int) (hm : okIntsQ m) (hl : l.length * 80 ≤ 140737488351232 ∧ ∀ p ∈ l, okPassQ p) (ha : okIntsQ after) : CALL 6 [SL true none m.length (ints m), PsT true none l, SL true none after.length (ints after)] = some (B true, []) :=
  ArgueEnters_true' m l after (len_bd hm.1) (by omega) (len_bd ha.1) fun p hp => bdP_of (hl.2 p hp)
end Go.Proofs.Ytochkebkfoophaa.Tev
