/- The law ArgueSees: what it returns for any input. -/
import Derived.Test.YtochkebkfoophaaL24Packs
import Derived.Test.YtochkebkfoophaaQWh
namespace Go.Proofs.Ytochkebkfoophaa.Tev
open Go Go.RowKit Go.Proofs Go.Proofs.Ytochkebkfoophaa.Q
set_option linter.unusedSectionVars false
set_option maxRecDepth 100000
set_option maxHeartbeats 0
set_option linter.unusedSimpArgs false
set_option linter.unusedVariables false
/-- What is seen of one argument. -/
def sees (m a P Q : List Int) (how : ByteArray) : Prop := P.length = Q.length ∧ ∀ (k : Nat) (x y : Int), P[k]? = some x → Q[k]? = some y →
  (0 ≤ x ∧ x < m.length) ∧ (0 ≤ y ∧ y < a.length) ∧ a.getD y.toNat 0 = m.getD x.toNat 0 ∧ (how = (ByteArray.mk #[115, 104, 97, 114, 101]) → y < m.length ∧ y = x) ∧ (how = (ByteArray.mk #[99, 111, 112, 121]) ∨ how = (ByteArray.mk #[118, 97, 108, 117, 101]) → (m.length : Int) ≤ y)
theorem getD_app1 {m t : List Int} {k : Nat} (h : k < m.length) : (m ++ t).getD k 0 = m.getD k 0 := by
  simp [List.getElem?_append_left, h]
theorem sees_of {m : List Int} {l : List PassQ} {i : Nat} {p : PassQ} {d : DscQ} (hp : l[i]? = some p) (hb : bdP p) (ho : okPs p) (hl : l.length ≤ 8) (hm : m.length ≤ 4000) (he : errI m.length p.1.1 p.1.2.1 p.1.2.2 = 0)
    (hd : (entQ m l (m, [])).2[i]? = some d) :
    okD d.1 d.2.1 d.2.2 ∧ sees m (entQ m l (m, [])).1 (placesQ p.1.1 p.1.2.1 p.1.2.2) (placesQ d.1 d.2.1 d.2.2) p.2.1 ∧ bdP (d, p.2) := by
  obtain ⟨⟨t, h1⟩, u, h2, h3, h4⟩ := ent_spec m l m []
  obtain ⟨d', h5, h6⟩ := h4 i p hp
  rw [h2, List.nil_append, h5] at hd
  have hd := Option.some.inj hd
  subst hd
  have hx : ∀ x ∈ placesQ p.1.1 p.1.2.1 p.1.2.2, 0 ≤ x ∧ x < m.length := fun x hx => plI_bd hb.1 (by rw [plI_of he]; exact hx)
  have hle := ent_len m l m []
  rcases h6 with ⟨a1, B, t1, t2, a2, a3, a4, a5⟩ | ⟨a1, a2⟩
  · have hE : okE p.1.2.1 := ⟨ho.1.1, ho.1.2.1⟩
    have hw : wholeE p.1.2.1 = p.1.2.1 := if_pos hE
    have hpe : errP m p.1.1 p.1.2.1 p.1.2.2 = 0 := by unfold errP; rw [if_neg (by omega)]; exact he
    have hpl : ((packP m p).length : Int) = pr p.1.2.1 := by
      unfold packP packQ
      rw [if_pos hpe, pickM_len]
      unfold placesQ
      rw [if_pos ho.1, plcR_length ho.1.2.2.1 ho.1.1]
    have hBle : B ≤ 100000 := by
      rw [a4] at hle
      simp only [List.length_append] at hle
      omega
    obtain ⟨w1, w2⟩ := whole_run (B := B) hE hBle
    subst a2
    refine ⟨w1, ?_, ⟨by show (B : Int) ≤ _; omega, by show ((wholeE p.1.2.1).length : Int) ≤ _; rw [hw]; exact hb.2.1, by show ((wholeT p.1.2.1).length : Int) ≤ _; rw [w1.2.2.1, hw]; exact hb.2.1⟩⟩
    show sees m _ _ (placesQ (B : Int) (wholeE p.1.2.1) (wholeT p.1.2.1)) _
    rw [w2]
    have hPl : (placesQ p.1.1 p.1.2.1 p.1.2.2).length = (pr p.1.2.1).toNat := by
      have := plcR_length (b := p.1.1) ho.1.2.2.1 ho.1.1
      unfold placesQ
      rw [if_pos ho.1]
      omega
    refine ⟨by rw [run_len, hPl], fun k x y hk hy => ?_⟩
    have hk0 : k < (placesQ p.1.1 p.1.2.1 p.1.2.2).length := by
      rcases Nat.lt_or_ge k (placesQ p.1.1 p.1.2.1 p.1.2.2).length with h | h
      · exact h
      · rw [List.getElem?_eq_none h] at hk; simp at hk
    rw [run_get (by omega)] at hy
    have hy := Option.some.inj hy
    subst hy
    have hpk : packP m p = pickM m (placesQ p.1.1 p.1.2.1 p.1.2.2) := by
      unfold packP packQ
      rw [if_pos hpe]
    have hpn : (packP m p)[k]? = some (m.getD x.toNat 0) := by
      rw [hpk]
      unfold pickM
      rw [List.getElem?_map, hk]; rfl
    have hout : (entQ m l (m, [])).1[B + k]? = some (m.getD x.toNat 0) := by
      rw [a4, List.getElem?_append_right (by omega), show B + k - t1.length = k by omega, List.getElem?_append_left (by rw [hpk, pickM_len]; exact hk0), hpn]
    have hlt : B + k < (entQ m l (m, [])).1.length := by
      rcases Nat.lt_or_ge (B + k) (entQ m l (m, [])).1.length with h | h
      · exact h
      · rw [List.getElem?_eq_none h] at hout; simp at hout
    refine ⟨hx x (List.mem_of_getElem? hk), ⟨by omega, by omega⟩, ?_, ?_, fun _ => by omega⟩
    · rw [show ((B : Int) + (k : Int)).toNat = B + k by omega, List.getD_eq_getElem?_getD, hout]; rfl
    · intro hs
      unfold packedQ at a1
      rw [hs, if_neg nSA] at a1
      simp at a1
  · subst a2
    refine ⟨ho.1, ⟨rfl, fun k x y hk hy => ?_⟩, hb⟩
    rw [hk] at hy
    have hy := Option.some.inj hy
    subst hy
    have h7 := hx x (List.mem_of_getElem? hk)
    refine ⟨h7, ⟨h7.1, by rw [h1, List.length_append]; omega⟩, ?_, fun _ => ⟨h7.2, rfl⟩, ?_⟩
    · rw [h1, getD_app1 (by omega)]
    · intro hs
      unfold packedQ at a1
      rcases hs with hs | hs
      · rw [hs, if_neg nCA] at a1; exact absurd (decide_eq_true nCS) a1
      · rw [hs, if_neg nVA] at a1; exact absurd (decide_eq_true nVS) a1
section
variable (q b : Bool) (c cm : Option Nat) (m : List Int) (l : List PassQ)
theorem l_Sees16 (hm : m.length ≤ 4000) (hl : l.length ≤ 8) (a P Q : List Int) (D : List DscQ) (hal : a.length ≤ 100000) (hP : P.length ≤ 4000) (i : Nat) (p : PassQ) (hp : l[i]? = some p) (ho : okH p.2.1) (hs : sees m a P Q p.2.1) : ∀ (r : List Int) (k : Nat), P.drop k = r →
    lp E0 pr0 3 16 ⟨[(0, SL b cm m.length (ints m)), (1, PsT q c l), (5, .sl 0 0 a.length 1 none), (6, .sl 1 0 D.length 3 none), (8, I i), (9, .sl 2 0 P.length 1 none), (11, .sl 3 0 Q.length 1 none), (13, I k)],
        [(0, .arr (ints a) 0 1), (1, .arr (D.flatMap dscC) 1 1), (2, .arr (ints P) 2 1), (3, .arr (ints Q) 3 1)], 4⟩ =
      some (.exit 2, ⟨[(0, SL b cm m.length (ints m)), (1, PsT q c l), (5, .sl 0 0 a.length 1 none), (6, .sl 1 0 D.length 3 none), (8, I i)], [(0, .arr (ints a) 0 1), (1, .arr (D.flatMap dscC) 1 1)], 2⟩) := by
  intro r
  have hi : (i : Int) < l.length := by
    rcases Nat.lt_or_ge i l.length with h | h
    · omega
    · rw [List.getElem?_eq_none h] at hp; simp at hp
  induction r with
  | nil =>
    intro k h1
    have h5 := drop_nil h1
    have h6 : ¬ (k : Int) < P.length := by omega
    rw [lp_eq lp3_16]
    simp (config := { maxSteps := 1000000 }) (disch := omega) only [push_cast, ↓reduceIte, Nat.reduceEqDiff, Nat.reduceAdd, Nat.reduceLT, Nat.reduceLeDiff, Nat.reduceBEq, Nat.reduceMul, Nat.reduceSub, Int.reduceToNat, Int.reduceEq, Int.reduceLT, Int.reduceLE, Int.reduceNeg, Int.reduceAdd, Int.reduceSub, Int.reduceMul, Try.f3, kr3, kp3_16, kp3_9, ow3_16, ow3_9, ty3, ty4, ty9, ty22, ty23, ty26, ty34, ty36, tb4, h6]
  | cons x r ih =>
    intro k h1
    obtain ⟨g1, g2, g3⟩ := drop_cons h1
    have g4 : k < Q.length := by have := hs.1; omega
    obtain ⟨y, hy⟩ : ∃ y, Q[k]? = some y := ⟨_, List.getElem?_eq_getElem g4⟩
    obtain ⟨e1, e2, e3, e4, e5⟩ := hs.2 k x y g2 hy
    have g8 : (k : Int) < P.length := by omega
    have g9 : (k : Int) < Q.length := by omega
    obtain ⟨s, rfl⟩ : ∃ s : Nat, x = s := ⟨x.toNat, by omega⟩
    obtain ⟨t, rfl⟩ : ∃ s : Nat, y = s := ⟨y.toNat, by omega⟩
    have ih' := ih (k + 1) g3
    have c1 : ¬ (a.length : Int) ≤ t := by omega
    have c2 : (t : Int) < a.length := by omega
    have c3 : (s : Int) < m.length := by omega
    have c4 : t < a.length := by omega
    have c5 : s < m.length := by omega
    simp only [Int.toNat_natCast] at e3
    simp only [cast1, List.length_append, List.length_cons, List.length_nil, Nat.zero_add, Nat.add_zero, Int.natCast_zero, Int.natCast_add, Int.zero_add, ints_1, ints_0, ] at ih'
    rw [lp_eq lp3_16]
    rcases ho with hh | hh | hh | hh
    · obtain ⟨f1, f2⟩ := e4 hh
      obtain rfl : t = s := by omega
      have f3 : ¬ (m.length : Int) ≤ t := by omega
      simp (config := { maxSteps := 1000000 }) (disch := omega) only [push_cast, ↓reduceIte, Nat.reduceEqDiff, Nat.reduceAdd, Nat.reduceLT, Nat.reduceLeDiff, Nat.reduceBEq, Nat.reduceMul, Nat.reduceSub, Int.reduceToNat, Int.reduceEq, Int.reduceLT, Int.reduceLE, Int.reduceNeg, Int.reduceAdd, Int.reduceSub, Int.reduceMul, Try.f3, kr3, kp3_16, kp3_9, ow3_16, ow3_9, ty3, ty4, ty9, ty22, ty23, ty26, ty34, ty36, tb4, g1, g4, g8, g9, hi, c1, c2, c3, c4, c5, f3, e3, ps0 hp, ps1 hp, ps2 hp, ps3 hp, ps4 hp, hh, getD_of g2, getD_of hy, ih', nSC, nSV, nSA]
    · have f3 := e5 (.inl hh)
      simp (config := { maxSteps := 1000000 }) (disch := omega) only [push_cast, ↓reduceIte, Nat.reduceEqDiff, Nat.reduceAdd, Nat.reduceLT, Nat.reduceLeDiff, Nat.reduceBEq, Nat.reduceMul, Nat.reduceSub, Int.reduceToNat, Int.reduceEq, Int.reduceLT, Int.reduceLE, Int.reduceNeg, Int.reduceAdd, Int.reduceSub, Int.reduceMul, Try.f3, kr3, kp3_16, kp3_9, ow3_16, ow3_9, ty3, ty4, ty9, ty22, ty23, ty26, ty34, ty36, tb4, g1, g4, g8, g9, hi, c1, c2, c3, c4, c5, f3, e3, ps0 hp, ps1 hp, ps2 hp, ps3 hp, ps4 hp, hh, getD_of g2, getD_of hy, ih', nCS, nCV, nCA]
    · have f3 := e5 (.inr hh)
      simp (config := { maxSteps := 1000000 }) (disch := omega) only [push_cast, ↓reduceIte, Nat.reduceEqDiff, Nat.reduceAdd, Nat.reduceLT, Nat.reduceLeDiff, Nat.reduceBEq, Nat.reduceMul, Nat.reduceSub, Int.reduceToNat, Int.reduceEq, Int.reduceLT, Int.reduceLE, Int.reduceNeg, Int.reduceAdd, Int.reduceSub, Int.reduceMul, Try.f3, kr3, kp3_16, kp3_9, ow3_16, ow3_9, ty3, ty4, ty9, ty22, ty23, ty26, ty34, ty36, tb4, g1, g4, g8, g9, hi, c1, c2, c3, c4, c5, f3, e3, ps0 hp, ps1 hp, ps2 hp, ps3 hp, ps4 hp, hh, getD_of g2, getD_of hy, ih', nVS, nVC, nVA]
    · by_cases f3 : (m.length : Int) ≤ t
      · simp (config := { maxSteps := 1000000 }) (disch := omega) only [push_cast, ↓reduceIte, Nat.reduceEqDiff, Nat.reduceAdd, Nat.reduceLT, Nat.reduceLeDiff, Nat.reduceBEq, Nat.reduceMul, Nat.reduceSub, Int.reduceToNat, Int.reduceEq, Int.reduceLT, Int.reduceLE, Int.reduceNeg, Int.reduceAdd, Int.reduceSub, Int.reduceMul, Try.f3, kr3, kp3_16, kp3_9, ow3_16, ow3_9, ty3, ty4, ty9, ty22, ty23, ty26, ty34, ty36, tb4, g1, g4, g8, g9, hi, c1, c2, c3, c4, c5, f3, e3, ps0 hp, ps1 hp, ps2 hp, ps3 hp, ps4 hp, hh, getD_of g2, getD_of hy, ih', nAS, nAC, nAV]
      · simp (config := { maxSteps := 1000000 }) (disch := omega) only [push_cast, ↓reduceIte, Nat.reduceEqDiff, Nat.reduceAdd, Nat.reduceLT, Nat.reduceLeDiff, Nat.reduceBEq, Nat.reduceMul, Nat.reduceSub, Int.reduceToNat, Int.reduceEq, Int.reduceLT, Int.reduceLE, Int.reduceNeg, Int.reduceAdd, Int.reduceSub, Int.reduceMul, Try.f3, kr3, kp3_16, kp3_9, ow3_16, ow3_9, ty3, ty4, ty9, ty22, ty23, ty26, ty34, ty36, tb4, g1, g4, g8, g9, hi, c1, c2, c3, c4, c5, f3, e3, ps0 hp, ps1 hp, ps2 hp, ps3 hp, ps4 hp, hh, getD_of g2, getD_of hy, ih', nAS, nAC, nAV]
theorem dc0 {D : List DscQ} {i : Nat} {d : DscQ} (h : D[i]? = some d) : (D.flatMap dscC)[i * 3]? = some (CI d.1) := flat_get dscC_len h 0 (by decide)
theorem dc1 {D : List DscQ} {i : Nat} {d : DscQ} (h : D[i]? = some d) : (D.flatMap dscC)[i * 3 + 1]? = some (.s none d.2.1.length (ints d.2.1)) := flat_get dscC_len h 1 (by decide)
theorem dc2 {D : List DscQ} {i : Nat} {d : DscQ} (h : D[i]? = some d) : (D.flatMap dscC)[i * 3 + 2]? = some (.s none d.2.2.length (ints d.2.2)) := flat_get dscC_len h 2 (by decide)
theorem l_Sees9 (hm : m.length ≤ 4000) (hl : l.length ≤ 8) (a : List Int) (D : List DscQ) (hal : a.length ≤ 100000) (hD : D.length = l.length) (hb : ∀ p ∈ l, bdP p) (ho : ∀ p ∈ l, okPs p)
    (hs : ∀ (i : Nat) (p : PassQ) (d : DscQ), l[i]? = some p → D[i]? = some d → okD d.1 d.2.1 d.2.2 ∧ sees m a (placesQ p.1.1 p.1.2.1 p.1.2.2) (placesQ d.1 d.2.1 d.2.2) p.2.1 ∧ bdP (d, p.2)) : ∀ (r : List PassQ) (i : Nat), l.drop i = r →
    lp E0 pr0 3 9 ⟨[(0, SL b cm m.length (ints m)), (1, PsT q c l), (5, .sl 0 0 a.length 1 none), (6, .sl 1 0 D.length 3 none), (8, I i)], [(0, .arr (ints a) 0 1), (1, .arr (D.flatMap dscC) 1 1)], 2⟩ =
      some (.exit 0, ⟨[], [], 0⟩) := by
  intro r
  induction r with
  | nil =>
    intro i h1
    have h5 := drop_nil h1
    have h6 : ¬ (i : Int) < l.length := by omega
    rw [lp_eq lp3_9]
    simp (config := { maxSteps := 1000000 }) (disch := omega) only [push_cast, ↓reduceIte, Nat.reduceEqDiff, Nat.reduceAdd, Nat.reduceLT, Nat.reduceLeDiff, Nat.reduceBEq, Nat.reduceMul, Nat.reduceSub, Int.reduceToNat, Int.reduceEq, Int.reduceLT, Int.reduceLE, Int.reduceNeg, Int.reduceAdd, Int.reduceSub, Int.reduceMul, Try.f3, kr3, kp3_16, kp3_9, ow3_16, ow3_9, ty3, ty4, ty9, ty22, ty23, ty26, ty34, ty36, tb4, h6]
  | cons p r ih =>
    intro i h1
    obtain ⟨g1, g2, g3⟩ := drop_cons h1
    have g8 : (i : Int) < l.length := by omega
    have g9 : (i : Int) < D.length := by omega
    obtain ⟨d, hd⟩ : ∃ d, D[i]? = some d := ⟨_, List.getElem?_eq_getElem (by omega)⟩
    have hpb := hb p (List.mem_of_getElem? g2)
    have hpo := ho p (List.mem_of_getElem? g2)
    obtain ⟨k1, k2, k3⟩ := hs i p d g2 hd
    have v1 := r_Places p.1.1 true true none none p.1.2.1 p.1.2.2 hpb.1
    have v2 := r_Places d.1 true true none none d.2.1 d.2.2 k3.1
    rw [errD_ok.2 hpo.1] at v1
    rw [errD_ok.2 k1] at v2
    have n1 := placesQ_len p.1.1 p.1.2.1 p.1.2.2
    have hin := l_Sees16 q b c cm m l hm hl a _ _ D hal n1 i p g2 hpo.2 k2 _ 0 rfl
    have ih' := ih (i + 1) g3
    have k4 : ((placesQ p.1.1 p.1.2.1 p.1.2.2).length : Int) = (placesQ d.1 d.2.1 d.2.2).length := by have := k2.1; omega
    simp only [cast1, List.length_append, List.length_cons, List.length_nil, Nat.zero_add, Nat.add_zero, Int.natCast_zero, Int.natCast_add, Int.zero_add, ints_1, ints_0, ] at ih' hin
    rw [lp_eq lp3_9]
    simp (config := { maxSteps := 1000000 }) (disch := omega) only [push_cast, ↓reduceIte, Nat.reduceEqDiff, Nat.reduceAdd, Nat.reduceLT, Nat.reduceLeDiff, Nat.reduceBEq, Nat.reduceMul, Nat.reduceSub, Int.reduceToNat, Int.reduceEq, Int.reduceLT, Int.reduceLE, Int.reduceNeg, Int.reduceAdd, Int.reduceSub, Int.reduceMul, Try.f3, kr3, kp3_16, kp3_9, ow3_16, ow3_9, ty3, ty4, ty9, ty22, ty23, ty26, ty34, ty36, tb4, g1, g8, g9, ps0 g2, ps1 g2, ps2 g2, ps3 g2, ps4 g2, dc0 hd, dc1 hd, dc2 hd, v1, v2, k4, hin, ih']
theorem take_app (m t : List Int) : rowAt (ints (m ++ t)) 0 m.length = ints m := by
  unfold rowAt ints
  rw [List.drop_zero, List.map_append, List.take_append_of_le_length (by simp), List.take_of_length_le (by simp)]
theorem ArgueSees_true' (hm : (m.length : Int) ≤ 9223372036854775806) (hlb : (l.length : Int) ≤ 9223372036854775806) (hb : ∀ p ∈ l, bdP p) :
    CALL 3 [SL true none m.length (ints m), PsT true none l] = some (B true, []) := by
  have hL := c_Large true true none none m l
  by_cases h1 : 20000 < (m.length : Int)
  · rw [decide_eq_true h1, Bool.true_or] at hL
    refine lim_run (fn := Try.f3) fn3 rfl body3 (Nat.le_of_ble_eq_true rfl) ok3 ?_
    simp (config := { maxSteps := 1000000 }) (disch := omega) only [push_cast, ↓reduceIte, Nat.reduceEqDiff, Nat.reduceAdd, Nat.reduceLT, Nat.reduceLeDiff, Nat.reduceBEq, Nat.reduceMul, Nat.reduceSub, Int.reduceToNat, Int.reduceEq, Int.reduceLT, Int.reduceLE, Int.reduceNeg, Int.reduceAdd, Int.reduceSub, Int.reduceMul, Try.f3, kr3, kp3_16, kp3_9, ow3_16, ow3_9, ty3, ty4, ty9, ty22, ty23, ty26, ty34, ty36, tb4, hL, c_Awake]
  · rw [decide_eq_false h1, Bool.false_or] at hL
    by_cases h2 : 20 < (l.length : Int)
    · rw [decide_eq_true h2] at hL
      refine lim_run (fn := Try.f3) fn3 rfl body3 (Nat.le_of_ble_eq_true rfl) ok3 ?_
      simp (config := { maxSteps := 1000000 }) (disch := omega) only [push_cast, ↓reduceIte, Nat.reduceEqDiff, Nat.reduceAdd, Nat.reduceLT, Nat.reduceLeDiff, Nat.reduceBEq, Nat.reduceMul, Nat.reduceSub, Int.reduceToNat, Int.reduceEq, Int.reduceLT, Int.reduceLE, Int.reduceNeg, Int.reduceAdd, Int.reduceSub, Int.reduceMul, Try.f3, kr3, kp3_16, kp3_9, ow3_16, ow3_9, ty3, ty4, ty9, ty22, ty23, ty26, ty34, ty36, tb4, hL, c_Awake]
    · rw [decide_eq_false h2] at hL
      have he := c_Enter true true none none m l hm hb
      by_cases h0 : errEnt m l = 0
      · have hR : entR m l = entQ m l (m, []) := if_pos h0
        rw [h0, hR] at he
        unfold errEnt at h0
        by_cases hn : 4000 < (m.length : Int)
        · rw [if_pos hn] at h0; omega
        · rw [if_neg hn] at h0
          by_cases ho : okAll l
          · rw [if_pos ho] at h0
            have h8 := ho.1
            by_cases hr : 16000 < (m.length : Int) + roomQ l
            · rw [if_pos hr] at h0; omega
            · rw [if_neg hr] at h0
              have hA := errA_mem h0
              obtain ⟨⟨t, e1⟩, u, e2, e3, _⟩ := ent_spec m l m []
              have hle := ent_len m l m []
              have hD : (entQ m l (m, [])).2.length = l.length := by rw [e2]; simpa using e3
              have hD' : ((entQ m l (m, [])).2.length : Int) = l.length := by omega
              have hs := l_Sees9 true true none none m l (by omega) (by omega) (entQ m l (m, [])).1 (entQ m l (m, [])).2 (by omega) hD hb ho.2 (fun i p d hp hd => sees_of hp (hb p (List.mem_of_getElem? hp)) (ho.2 p (List.mem_of_getElem? hp)) (by omega) (by omega) (hA p (List.mem_of_getElem? hp)) hd) l 0 rfl
              have hta := take_app m t
              rw [← e1] at hta
              have hml : m.length ≤ (entQ m l (m, [])).1.length := by rw [e1, List.length_append]; omega
              have sm := r_SameInts false true none none m m hm
              rw [decide_eq_true rfl] at sm
              have hml1 : ¬ ((entQ m l (m, [])).1.length : Int) < m.length := by omega
              have hml2 : (m.length : Int) ≤ (entQ m l (m, [])).1.length := by omega
              simp only [cast1, List.length_append, List.length_cons, List.length_nil, Nat.zero_add, Nat.add_zero, Int.natCast_zero, Int.natCast_add, Int.zero_add, ints_1, ints_0, ] at hs
              refine lim_run (fn := Try.f3) fn3 rfl body3 (Nat.le_of_ble_eq_true rfl) ok3 ?_
              simp (config := { maxSteps := 1000000 }) (disch := omega) only [push_cast, ↓reduceIte, Nat.reduceEqDiff, Nat.reduceAdd, Nat.reduceLT, Nat.reduceLeDiff, Nat.reduceBEq, Nat.reduceMul, Nat.reduceSub, Int.reduceToNat, Int.reduceEq, Int.reduceLT, Int.reduceLE, Int.reduceNeg, Int.reduceAdd, Int.reduceSub, Int.reduceMul, Try.f3, kr3, kp3_16, kp3_9, ow3_16, ow3_9, ty3, ty4, ty9, ty22, ty23, ty26, ty34, ty36, tb4, hL, he, hD', hta, hml1, hml2, Nat.sub_zero, sm, hs, c_Awake]
          · rw [if_neg ho] at h0; omega
      · refine lim_run (fn := Try.f3) fn3 rfl body3 (Nat.le_of_ble_eq_true rfl) ok3 ?_
        simp (config := { maxSteps := 1000000 }) (disch := omega) only [push_cast, ↓reduceIte, Nat.reduceEqDiff, Nat.reduceAdd, Nat.reduceLT, Nat.reduceLeDiff, Nat.reduceBEq, Nat.reduceMul, Nat.reduceSub, Int.reduceToNat, Int.reduceEq, Int.reduceLT, Int.reduceLE, Int.reduceNeg, Int.reduceAdd, Int.reduceSub, Int.reduceMul, Try.f3, kr3, kp3_16, kp3_9, ow3_16, ow3_9, ty3, ty4, ty9, ty22, ty23, ty26, ty34, ty36, tb4, hL, he, h0, c_Awake]
end
def okPassQ (p : PassQ) : Prop := okDscQ p.1 ∧ p.2.1.size ≤ 140737488351232 ∧ True
theorem bdP_of {p : PassQ} (h : okPassQ p) : bdP p := ⟨h.1.1.2, len_bd h.1.2.1.1, len_bd h.1.2.2.1⟩
theorem pass_bd {l : List PassQ} (h : l.length * 72 ≤ 140737488351232) : (l.length : Int) ≤ 9223372036854775806 := by omega
theorem ArgueSees_true (m : List Int) (l : List PassQ) (hm : okIntsQ m) (hl : l.length * 80 ≤ 140737488351232 ∧ ∀ p ∈ l, okPassQ p) : CALL 3 [SL true none m.length (ints m), PsT true none l] = some (B true, []) :=
  ArgueSees_true' m l (len_bd hm.1) (by omega) fun p hp => bdP_of (hl.2 p hp)
end Go.Proofs.Ytochkebkfoophaa.Tev
