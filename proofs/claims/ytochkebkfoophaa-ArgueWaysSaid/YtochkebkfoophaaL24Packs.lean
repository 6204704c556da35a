/- The law ArguePacks: what it returns for any input. -/
import Derived.Test.YtochkebkfoophaaC24d
import Derived.Test.YtochkebkfoophaaQWh
import Derived.Test.YtochkebkfoophaaC24f
namespace Go.Proofs.Ytochkebkfoophaa.Tev
open Go Go.RowKit Go.Proofs Go.Proofs.Ytochkebkfoophaa.Q
set_option linter.unusedSectionVars false
set_option maxRecDepth 100000
set_option maxHeartbeats 0
set_option linter.unusedSimpArgs false
set_option linter.unusedVariables false
theorem set_self (m : List Int) (k : Nat) : m.set k (m.getD k 0) = m := by
  apply List.ext_getElem?
  intro i
  rw [List.getElem?_set]
  by_cases h : k = i
  · subst h
    by_cases h2 : k < m.length
    · simp [h2]
    · simp [h2]
  · simp [h]
theorem put_pick (m : List Int) : ∀ L : List Int, putL L (pickM m L) m = m
  | [] => rfl
  | x :: r => by
    show putL r (pickM m r) (m.set x.toNat (m.getD x.toNat 0)) = m
    rw [set_self, put_pick m r]
theorem back_err {m : List Int} {b : Int} {E S : List Int} (h : errP m b E S = 0) : errU m b E S (packQ m b E S) = 0 := by
  unfold errU packQ
  rw [if_pos h, if_pos h, pickM_len, if_pos rfl]
theorem back_unp {m : List Int} {b : Int} {E S : List Int} (h : errP m b E S = 0) : unpQ m b E S (packQ m b E S) = m := by
  unfold unpQ
  rw [if_pos (back_err h)]
  unfold packQ
  rw [if_pos h, put_pick]
theorem c_Large (q b : Bool) (c cm : Option Nat) (m : List Int) (l : List PassQ) : CALL 9 [SL b cm m.length (ints m), PsT q c l] = some (B (decide (20000 < (m.length : Int)) || decide (20 < (l.length : Int))), []) := by
  refine lim_run (fn := Try.f9) fn9 rfl body9 (Nat.le_of_ble_eq_true rfl) ok9 ?_
  simp (config := { maxSteps := 1000000 }) (disch := omega) only [push_cast, ↓reduceIte, Nat.reduceEqDiff, Nat.reduceAdd, Nat.reduceLT, Nat.reduceLeDiff, Nat.reduceBEq, Nat.reduceMul, Nat.reduceSub, Int.reduceToNat, Int.reduceEq, Int.reduceLT, Int.reduceLE, Int.reduceNeg, Int.reduceAdd, Int.reduceSub, Int.reduceMul, Try.f9, kr9, ty3, ty4, ty9, ty22, ty23, ty34, ty36, tb4]
  by_cases h : 20000 < (m.length : Int) <;> simp [h]
def okDscQ (d : DscQ) : Prop := (-9223372036854775808 ≤ d.1 ∧ d.1 ≤ 9223372036854775807) ∧ (d.2.1.length * 8 ≤ 140737488351232 ∧ ∀ a ∈ d.2.1, -9223372036854775808 ≤ a ∧ a ≤ 9223372036854775807) ∧ (d.2.2.length * 8 ≤ 140737488351232 ∧ ∀ a ∈ d.2.2, -9223372036854775808 ≤ a ∧ a ≤ 9223372036854775807)
def okIntsQ (m : List Int) : Prop := m.length * 8 ≤ 140737488351232 ∧ ∀ a ∈ m, -9223372036854775808 ≤ a ∧ a ≤ 9223372036854775807
theorem len_bd {xs : List Int} (h : xs.length * 8 ≤ 140737488351232) : (xs.length : Int) ≤ 9223372036854775806 := by omega
theorem unpQ_len (m : List Int) (b : Int) (E S l : List Int) : (unpQ m b E S l).length ≤ m.length := by
  unfold unpQ
  split
  · rw [putL_len]; omega
  · simp
theorem ArguePacks_true' (m : List Int) (b : Int) (E S l : List Int) (hm : (m.length : Int) ≤ 9223372036854775806) (hb : b ≤ 9223372036854775807) (hE : (E.length : Int) ≤ 9223372036854775806) (hS : (S.length : Int) ≤ 9223372036854775806) (hl : (l.length : Int) ≤ 9223372036854775806) :
    CALL 4 [SL true none m.length (ints m), Dsc b true none E true none S, SL true none l.length (ints l)] = some (B true, []) := by
  have hL := c_Large true true (some 0) none m []
  by_cases h1 : 20000 < (m.length : Int)
  · rw [decide_eq_true h1, Bool.true_or] at hL
    simp only [PsT, List.flatMap_nil, List.length_nil] at hL
    refine lim_run (fn := Try.f4) fn4 rfl body4 (Nat.le_of_ble_eq_true rfl) ok4 ?_
    simp (config := { maxSteps := 1000000 }) (disch := omega) only [push_cast, ↓reduceIte, Nat.reduceEqDiff, Nat.reduceAdd, Nat.reduceLT, Nat.reduceLeDiff, Nat.reduceBEq, Nat.reduceMul, Nat.reduceSub, Int.reduceToNat, Int.reduceEq, Int.reduceLT, Int.reduceLE, Int.reduceNeg, Int.reduceAdd, Int.reduceSub, Int.reduceMul, Try.f4, kr4, ty3, ty4, ty22, ty34, tb4, hL, c_Awake]
  · rw [decide_eq_false h1] at hL
    simp only [PsT, List.flatMap_nil, List.length_nil, Bool.false_or, Int.natCast_zero, show decide (20 < (0 : Int)) = false by decide] at hL
    by_cases h2 : 20000 < (l.length : Int)
    · refine lim_run (fn := Try.f4) fn4 rfl body4 (Nat.le_of_ble_eq_true rfl) ok4 ?_
      simp (config := { maxSteps := 1000000 }) (disch := omega) only [push_cast, ↓reduceIte, Nat.reduceEqDiff, Nat.reduceAdd, Nat.reduceLT, Nat.reduceLeDiff, Nat.reduceBEq, Nat.reduceMul, Nat.reduceSub, Int.reduceToNat, Int.reduceEq, Int.reduceLT, Int.reduceLE, Int.reduceNeg, Int.reduceAdd, Int.reduceSub, Int.reduceMul, Try.f4, kr4, ty3, ty4, ty22, ty34, tb4, hL, h2, c_Awake]
    · have p1 := c_Pack b true true true none none none m E S hE hS hm hb
      have p2 := r_Pack b true true true none none none m E S hb hm
      have u1 := c_Unpack b true true true true none none none none m E S l hE hS hm hl hb
      have u2 := r_Unpack b true true true true none none none none m E S l hb hm hl
      have n1 := packQ_len m b E S
      have n2 := unpQ_len m b E S l
      have s1 := r_SameInts false false none none (packQ m b E S) (packQ m b E S) (by omega)
      have s2 := r_SameInts false false none none (unpQ m b E S l) (unpQ m b E S l) (by omega)
      rw [decide_eq_true rfl] at s1 s2
      by_cases he : errP m b E S = 0
      · have u3 := c_Unpack b true true true false none none none none m E S (packQ m b E S) hE hS hm (by omega) hb
        rw [back_err he, back_unp he] at u3
        have s3 := r_SameInts false true none none m m hm
        rw [decide_eq_true rfl] at s3
        rw [he] at p1 p2
        refine lim_run (fn := Try.f4) fn4 rfl body4 (Nat.le_of_ble_eq_true rfl) ok4 ?_
        simp (config := { maxSteps := 1000000 }) (disch := omega) only [push_cast, ↓reduceIte, Nat.reduceEqDiff, Nat.reduceAdd, Nat.reduceLT, Nat.reduceLeDiff, Nat.reduceBEq, Nat.reduceMul, Nat.reduceSub, Int.reduceToNat, Int.reduceEq, Int.reduceLT, Int.reduceLE, Int.reduceNeg, Int.reduceAdd, Int.reduceSub, Int.reduceMul, Try.f4, kr4, ty3, ty4, ty22, ty34, tb4, hL, h2, p1, p2, u1, u2, u3, s1, s2, s3, c_Awake]
      · refine lim_run (fn := Try.f4) fn4 rfl body4 (Nat.le_of_ble_eq_true rfl) ok4 ?_
        simp (config := { maxSteps := 1000000 }) (disch := omega) only [push_cast, ↓reduceIte, Nat.reduceEqDiff, Nat.reduceAdd, Nat.reduceLT, Nat.reduceLeDiff, Nat.reduceBEq, Nat.reduceMul, Nat.reduceSub, Int.reduceToNat, Int.reduceEq, Int.reduceLT, Int.reduceLE, Int.reduceNeg, Int.reduceAdd, Int.reduceSub, Int.reduceMul, Try.f4, kr4, ty3, ty4, ty22, ty34, tb4, hL, h2, p1, p2, u1, u2, s1, s2, he, c_Awake]
theorem ArguePacks_true (m : List Int) (d : DscQ) (l : List Int) (hm : okIntsQ m) (hd : okDscQ d) (hl : okIntsQ l) : CALL 4 [SL true none m.length (ints m), Dsc d.1 true none d.2.1 true none d.2.2, SL true none l.length (ints l)] = some (B true, []) :=
  ArguePacks_true' m d.1 d.2.1 d.2.2 l (len_bd hm.1) hd.1.2 (len_bd hd.2.1.1) (len_bd hd.2.2.1) (len_bd hl.1)
/-- What is seen of one argument. -/
def sees (m a P Q : List Int) (how : ByteArray) : Prop := P.length = Q.length ∧ ∀ (k : Nat) (x y : Int), P[k]? = some x → Q[k]? = some y →
  (0 ≤ x ∧ x < m.length) ∧ (0 ≤ y ∧ y < a.length) ∧ a.getD y.toNat 0 = m.getD x.toNat 0 ∧ (how = (ByteArray.mk #[115, 104, 97, 114, 101]) → y < m.length ∧ y = x) ∧ (how = (ByteArray.mk #[99, 111, 112, 121]) ∨ how = (ByteArray.mk #[118, 97, 108, 117, 101]) → (m.length : Int) ≤ y)
theorem getD_app1 {m t : List Int} {k : Nat} (h : k < m.length) : (m ++ t).getD k 0 = m.getD k 0 := by
  simp [List.getElem?_append_left, h]
theorem sees_of {m : List Int} {l : List PassQ} {i : Nat} {p : PassQ} {d : DscQ} (hp : l[i]? = some p) (hb : bdP p) (ho : okPs p) (hl : l.length ≤ 8) (hm : m.length ≤ 4000) (he : errI m.length p.1.1 p.1.2.1 p.1.2.2 = 0)
    (hd : (entQ m l (m, [])).2[i]? = some d) :
    okD d.1 d.2.1 d.2.2 ∧ sees m (entQ m l (m, [])).1 (placesQ p.1.1 p.1.2.1 p.1.2.2) (placesQ d.1 d.2.1 d.2.2) p.2.1 ∧ bdP (d, p.2) := by
  obtain ⟨⟨t, h1⟩, u, h2, h3, h4⟩ := ent_spec m l m []
  obtain ⟨d', h5, h6⟩ := h4 i p hp
  rw [h2, List.nil_append, h5] at hd
  have hd := Option.some.inj hd
  subst hd
  have hx : ∀ x ∈ placesQ p.1.1 p.1.2.1 p.1.2.2, 0 ≤ x ∧ x < m.length := fun x hx => plI_bd hb.1 (by rw [plI_of he]; exact hx)
  have hle := ent_len m l m []
  rcases h6 with ⟨a1, B, t1, t2, a2, a3, a4, a5⟩ | ⟨a1, a2⟩
  · have hE : okE p.1.2.1 := ⟨ho.1.1, ho.1.2.1⟩
    have hw : wholeE p.1.2.1 = p.1.2.1 := if_pos hE
    have hpe : errP m p.1.1 p.1.2.1 p.1.2.2 = 0 := by unfold errP; rw [if_neg (by omega)]; exact he
    have hpl : ((packP m p).length : Int) = pr p.1.2.1 := by
      unfold packP packQ
      rw [if_pos hpe, pickM_len]
      unfold placesQ
      rw [if_pos ho.1, plcR_length ho.1.2.2.1 ho.1.1]
    have hBle : B ≤ 100000 := by
      rw [a4] at hle
      simp only [List.length_append] at hle
      omega
    obtain ⟨w1, w2⟩ := whole_run (B := B) hE hBle
    subst a2
    refine ⟨w1, ?_, ⟨by show (B : Int) ≤ _; omega, by show ((wholeE p.1.2.1).length : Int) ≤ _; rw [hw]; exact hb.2.1, by show ((wholeT p.1.2.1).length : Int) ≤ _; rw [w1.2.2.1, hw]; exact hb.2.1⟩⟩
    show sees m _ _ (placesQ (B : Int) (wholeE p.1.2.1) (wholeT p.1.2.1)) _
    rw [w2]
    have hPl : (placesQ p.1.1 p.1.2.1 p.1.2.2).length = (pr p.1.2.1).toNat := by
      have := plcR_length (b := p.1.1) ho.1.2.2.1 ho.1.1
      unfold placesQ
      rw [if_pos ho.1]
      omega
    refine ⟨by rw [run_len, hPl], fun k x y hk hy => ?_⟩
    have hk0 : k < (placesQ p.1.1 p.1.2.1 p.1.2.2).length := by
      rcases Nat.lt_or_ge k (placesQ p.1.1 p.1.2.1 p.1.2.2).length with h | h
      · exact h
      · rw [List.getElem?_eq_none h] at hk; simp at hk
    rw [run_get (by omega)] at hy
    have hy := Option.some.inj hy
    subst hy
    have hpk : packP m p = pickM m (placesQ p.1.1 p.1.2.1 p.1.2.2) := by
      unfold packP packQ
      rw [if_pos hpe]
    have hpn : (packP m p)[k]? = some (m.getD x.toNat 0) := by
      rw [hpk]
      unfold pickM
      rw [List.getElem?_map, hk]; rfl
    have hout : (entQ m l (m, [])).1[B + k]? = some (m.getD x.toNat 0) := by
      rw [a4, List.getElem?_append_right (by omega), show B + k - t1.length = k by omega, List.getElem?_append_left (by rw [hpk, pickM_len]; exact hk0), hpn]
    have hlt : B + k < (entQ m l (m, [])).1.length := by
      rcases Nat.lt_or_ge (B + k) (entQ m l (m, [])).1.length with h | h
      · exact h
      · rw [List.getElem?_eq_none h] at hout; simp at hout
    refine ⟨hx x (List.mem_of_getElem? hk), ⟨by omega, by omega⟩, ?_, ?_, fun _ => by omega⟩
    · rw [show ((B : Int) + (k : Int)).toNat = B + k by omega, List.getD_eq_getElem?_getD, hout]; rfl
    · intro hs
      unfold packedQ at a1
      rw [hs, if_neg nSA] at a1
      simp at a1
  · subst a2
    refine ⟨ho.1, ⟨rfl, fun k x y hk hy => ?_⟩, hb⟩
    rw [hk] at hy
    have hy := Option.some.inj hy
    subst hy
    have h7 := hx x (List.mem_of_getElem? hk)
    refine ⟨h7, ⟨h7.1, by rw [h1, List.length_append]; omega⟩, ?_, fun _ => ⟨h7.2, rfl⟩, ?_⟩
    · rw [h1, getD_app1 (by omega)]
    · intro hs
      unfold packedQ at a1
      rcases hs with hs | hs
      · rw [hs, if_neg nCA] at a1; exact absurd (decide_eq_true nCS) a1
      · rw [hs, if_neg nVA] at a1; exact absurd (decide_eq_true nVS) a1
section
variable (q b : Bool) (c cm : Option Nat) (m : List Int) (l : List PassQ)
theorem l_Sees16 (hm : m.length ≤ 4000) (hl : l.length ≤ 8) (a P Q : List Int) (D : List DscQ) (hal : a.length ≤ 100000) (hP : P.length ≤ 4000) (i : Nat) (p : PassQ) (hp : l[i]? = some p) (ho : okH p.2.1) (hs : sees m a P Q p.2.1) : ∀ (r : List Int) (k : Nat), P.drop k = r →
    lp E0 pr0 3 16 ⟨[(0, SL b cm m.length (ints m)), (1, PsT q c l), (5, .sl 0 0 a.length 1 none), (6, .sl 1 0 D.length 3 none), (8, I i), (9, .sl 2 0 P.length 1 none), (11, .sl 3 0 Q.length 1 none), (13, I k)],
        [(0, .arr (ints a) 0 1), (1, .arr (D.flatMap dscC) 1 1), (2, .arr (ints P) 2 1), (3, .arr (ints Q) 3 1)], 4⟩ =
      some (.exit 2, ⟨[(0, SL b cm m.length (ints m)), (1, PsT q c l), (5, .sl 0 0 a.length 1 none), (6, .sl 1 0 D.length 3 none), (8, I i)], [(0, .arr (ints a) 0 1), (1, .arr (D.flatMap dscC) 1 1)], 2⟩) := by
  intro r
  have hi : (i : Int) < l.length := by
    rcases Nat.lt_or_ge i l.length with h | h
    · omega
    · rw [List.getElem?_eq_none h] at hp; simp at hp
  induction r with
  | nil =>
    intro k h1
    have h5 := drop_nil h1
    have h6 : ¬ (k : Int) < P.length := by omega
    rw [lp_eq lp3_16]
    simp (config := { maxSteps := 1000000 }) (disch := omega) only [push_cast, ↓reduceIte, Nat.reduceEqDiff, Nat.reduceAdd, Nat.reduceLT, Nat.reduceLeDiff, Nat.reduceBEq, Nat.reduceMul, Nat.reduceSub, Int.reduceToNat, Int.reduceEq, Int.reduceLT, Int.reduceLE, Int.reduceNeg, Int.reduceAdd, Int.reduceSub, Int.reduceMul, Try.f3, kr3, kp3_16, kp3_9, ow3_16, ow3_9, ty3, ty4, ty9, ty22, ty23, ty26, ty34, ty36, tb4, h6]
  | cons x r ih =>
    intro k h1
    obtain ⟨g1, g2, g3⟩ := drop_cons h1
    have g4 : k < Q.length := by have := hs.1; omega
    obtain ⟨y, hy⟩ : ∃ y, Q[k]? = some y := ⟨_, List.getElem?_eq_getElem g4⟩
    obtain ⟨e1, e2, e3, e4, e5⟩ := hs.2 k x y g2 hy
    have g8 : (k : Int) < P.length := by omega
    have g9 : (k : Int) < Q.length := by omega
    obtain ⟨s, rfl⟩ : ∃ s : Nat, x = s := ⟨x.toNat, by omega⟩
    obtain ⟨t, rfl⟩ : ∃ s : Nat, y = s := ⟨y.toNat, by omega⟩
    have ih' := ih (k + 1) g3
    have c1 : ¬ (a.length : Int) ≤ t := by omega
    have c2 : (t : Int) < a.length := by omega
    have c3 : (s : Int) < m.length := by omega
    have c4 : t < a.length := by omega
    have c5 : s < m.length := by omega
    simp only [Int.toNat_natCast] at e3
    simp only [cast1, List.length_append, List.length_cons, List.length_nil, Nat.zero_add, Nat.add_zero, Int.natCast_zero, Int.natCast_add, Int.zero_add, ints_1, ints_0, ] at ih'
    rw [lp_eq lp3_16]
    rcases ho with hh | hh | hh | hh
    · obtain ⟨f1, f2⟩ := e4 hh
      obtain rfl : t = s := by omega
      have f3 : ¬ (m.length : Int) ≤ t := by omega
      simp (config := { maxSteps := 1000000 }) (disch := omega) only [push_cast, ↓reduceIte, Nat.reduceEqDiff, Nat.reduceAdd, Nat.reduceLT, Nat.reduceLeDiff, Nat.reduceBEq, Nat.reduceMul, Nat.reduceSub, Int.reduceToNat, Int.reduceEq, Int.reduceLT, Int.reduceLE, Int.reduceNeg, Int.reduceAdd, Int.reduceSub, Int.reduceMul, Try.f3, kr3, kp3_16, kp3_9, ow3_16, ow3_9, ty3, ty4, ty9, ty22, ty23, ty26, ty34, ty36, tb4, g1, g4, g8, g9, hi, c1, c2, c3, c4, c5, f3, e3, ps0 hp, ps1 hp, ps2 hp, ps3 hp, ps4 hp, hh, getD_of g2, getD_of hy, ih', nSC, nSV, nSA]
    · have f3 := e5 (.inl hh)
      simp (config := { maxSteps := 1000000 }) (disch := omega) only [push_cast, ↓reduceIte, Nat.reduceEqDiff, Nat.reduceAdd, Nat.reduceLT, Nat.reduceLeDiff, Nat.reduceBEq, Nat.reduceMul, Nat.reduceSub, Int.reduceToNat, Int.reduceEq, Int.reduceLT, Int.reduceLE, Int.reduceNeg, Int.reduceAdd, Int.reduceSub, Int.reduceMul, Try.f3, kr3, kp3_16, kp3_9, ow3_16, ow3_9, ty3, ty4, ty9, ty22, ty23, ty26, ty34, ty36, tb4, g1, g4, g8, g9, hi, c1, c2, c3, c4, c5, f3, e3, ps0 hp, ps1 hp, ps2 hp, ps3 hp, ps4 hp, hh, getD_of g2, getD_of hy, ih', nCS, nCV, nCA]
    · have f3 := e5 (.inr hh)
      simp (config := { maxSteps := 1000000 }) (disch := omega) only [push_cast, ↓reduceIte, Nat.reduceEqDiff, Nat.reduceAdd, Nat.reduceLT, Nat.reduceLeDiff, Nat.reduceBEq, Nat.reduceMul, Nat.reduceSub, Int.reduceToNat, Int.reduceEq, Int.reduceLT, Int.reduceLE, Int.reduceNeg, Int.reduceAdd, Int.reduceSub, Int.reduceMul, Try.f3, kr3, kp3_16, kp3_9, ow3_16, ow3_9, ty3, ty4, ty9, ty22, ty23, ty26, ty34, ty36, tb4, g1, g4, g8, g9, hi, c1, c2, c3, c4, c5, f3, e3, ps0 hp, ps1 hp, ps2 hp, ps3 hp, ps4 hp, hh, getD_of g2, getD_of hy, ih', nVS, nVC, nVA]
    · by_cases f3 : (m.length : Int) ≤ t
      · simp (config := { maxSteps := 1000000 }) (disch := omega) only [push_cast, ↓reduceIte, Nat.reduceEqDiff, Nat.reduceAdd, Nat.reduceLT, Nat.reduceLeDiff, Nat.reduceBEq, Nat.reduceMul, Nat.reduceSub, Int.reduceToNat, Int.reduceEq, Int.reduceLT, Int.reduceLE, Int.reduceNeg, Int.reduceAdd, Int.reduceSub, Int.reduceMul, Try.f3, kr3, kp3_16, kp3_9, ow3_16, ow3_9, ty3, ty4, ty9, ty22, ty23, ty26, ty34, ty36, tb4, g1, g4, g8, g9, hi, c1, c2, c3, c4, c5, f3, e3, ps0 hp, ps1 hp, ps2 hp, ps3 hp, ps4 hp, hh, getD_of g2, getD_of hy, ih', nAS, nAC, nAV]
      · simp (config := { maxSteps := 1000000 }) (disch := omega) only [push_cast, ↓reduceIte, Nat.reduceEqDiff, Nat.reduceAdd, Nat.reduceLT, Nat.reduceLeDiff, Nat.reduceBEq, Nat.reduceMul, Nat.reduceSub, Int.reduceToNat, Int.reduceEq, Int.reduceLT, Int.reduceLE, Int.reduceNeg, Int.reduceAdd, Int.reduceSub, Int.reduceMul, Try.f3, kr3, kp3_16, kp3_9, ow3_16, ow3_9, ty3, ty4, ty9, ty22, ty23, ty26, ty34, ty36, tb4, g1, g4, g8, g9, hi, c1, c2, c3, c4, c5, f3, e3, ps0 hp, ps1 hp, ps2 hp, ps3 hp, ps4 hp, hh, getD_of g2, getD_of hy, ih', nAS, nAC, nAV]
theorem dc0 {D : List DscQ} {i : Nat} {d : DscQ} (h : D[i]? = some d) : (D.flatMap dscC)[i * 3]? = some (CI d.1) := flat_get dscC_len h 0 (by decide)
theorem dc1 {D : List DscQ} {i : Nat} {d : DscQ} (h : D[i]? = some d) : (D.flatMap dscC)[i * 3 + 1]? = some (.s none d.2.1.length (ints d.2.1)) := flat_get dscC_len h 1 (by decide)
theorem dc2 {D : List DscQ} {i : Nat} {d : DscQ} (h : D[i]? = some d) : (D.flatMap dscC)[i * 3 + 2]? = some (.s none d.2.2.length (ints d.2.2)) := flat_get dscC_len h 2 (by decide)
theorem l_Sees9 (hm : m.length ≤ 4000) (hl : l.length ≤ 8) (a : List Int) (D : List DscQ) (hal : a.length ≤ 100000) (hD : D.length = l.length) (hb : ∀ p ∈ l, bdP p) (ho : ∀ p ∈ l, okPs p)
    (hs : ∀ (i : Nat) (p : PassQ) (d : DscQ), l[i]? = some p → D[i]? = some d → okD d.1 d.2.1 d.2.2 ∧ sees m a (placesQ p.1.1 p.1.2.1 p.1.2.2) (placesQ d.1 d.2.1 d.2.2) p.2.1 ∧ bdP (d, p.2)) : ∀ (r : List PassQ) (i : Nat), l.drop i = r →
    lp E0 pr0 3 9 ⟨[(0, SL b cm m.length (ints m)), (1, PsT q c l), (5, .sl 0 0 a.length 1 none), (6, .sl 1 0 D.length 3 none), (8, I i)], [(0, .arr (ints a) 0 1), (1, .arr (D.flatMap dscC) 1 1)], 2⟩ =
      some (.exit 0, ⟨[], [], 0⟩) := by
  intro r
  induction r with
  | nil =>
    intro i h1
    have h5 := drop_nil h1
    have h6 : ¬ (i : Int) < l.length := by omega
    rw [lp_eq lp3_9]
    simp (config := { maxSteps := 1000000 }) (disch := omega) only [push_cast, ↓reduceIte, Nat.reduceEqDiff, Nat.reduceAdd, Nat.reduceLT, Nat.reduceLeDiff, Nat.reduceBEq, Nat.reduceMul, Nat.reduceSub, Int.reduceToNat, Int.reduceEq, Int.reduceLT, Int.reduceLE, Int.reduceNeg, Int.reduceAdd, Int.reduceSub, Int.reduceMul, Try.f3, kr3, kp3_16, kp3_9, ow3_16, ow3_9, ty3, ty4, ty9, ty22, ty23, ty26, ty34, ty36, tb4, h6]
  | cons p r ih =>
    intro i h1
    obtain ⟨g1, g2, g3⟩ := drop_cons h1
    have g8 : (i : Int) < l.length := by omega
    have g9 : (i : Int) < D.length := by omega
    obtain ⟨d, hd⟩ : ∃ d, D[i]? = some d := ⟨_, List.getElem?_eq_getElem (by omega)⟩
    have hpb := hb p (List.mem_of_getElem? g2)
    have hpo := ho p (List.mem_of_getElem? g2)
    obtain ⟨k1, k2, k3⟩ := hs i p d g2 hd
    have v1 := r_Places p.1.1 true true none none p.1.2.1 p.1.2.2 hpb.1
    have v2 := r_Places d.1 true true none none d.2.1 d.2.2 k3.1
    rw [errD_ok.2 hpo.1] at v1
    rw [errD_ok.2 k1] at v2
    have n1 := placesQ_len p.1.1 p.1.2.1 p.1.2.2
    have hin := l_Sees16 q b c cm m l hm hl a _ _ D hal n1 i p g2 hpo.2 k2 _ 0 rfl
    have ih' := ih (i + 1) g3
    have k4 : ((placesQ p.1.1 p.1.2.1 p.1.2.2).length : Int) = (placesQ d.1 d.2.1 d.2.2).length := by have := k2.1; omega
    simp only [cast1, List.length_append, List.length_cons, List.length_nil, Nat.zero_add, Nat.add_zero, Int.natCast_zero, Int.natCast_add, Int.zero_add, ints_1, ints_0, ] at ih' hin
    rw [lp_eq lp3_9]
    simp (config := { maxSteps := 1000000 }) (disch := omega) only [push_cast, ↓reduceIte, Nat.reduceEqDiff, Nat.reduceAdd, Nat.reduceLT, Nat.reduceLeDiff, Nat.reduceBEq, Nat.reduceMul, Nat.reduceSub, Int.reduceToNat, Int.reduceEq, Int.reduceLT, Int.reduceLE, Int.reduceNeg, Int.reduceAdd, Int.reduceSub, Int.reduceMul, Try.f3, kr3, kp3_16, kp3_9, ow3_16, ow3_9, ty3, ty4, ty9, ty22, ty23, ty26, ty34, ty36, tb4, g1, g8, g9, ps0 g2, ps1 g2, ps2 g2, ps3 g2, ps4 g2, dc0 hd, dc1 hd, dc2 hd, v1, v2, k4, hin, ih']
theorem take_app (m t : List Int) : rowAt (ints (m ++ t)) 0 m.length = ints m := by
  unfold rowAt ints
  rw [List.drop_zero, List.map_append, List.take_append_of_le_length (by simp), List.take_of_length_le (by simp)]
theorem ArgueSees_true' (hm : (m.length : Int) ≤ 9223372036854775806) (hlb : (l.length : Int) ≤ 9223372036854775806) (hb : ∀ p ∈ l, bdP p) :
    CALL 3 [SL true none m.length (ints m), PsT true none l] = some (B true, []) := by
  have hL := c_Large true true none none m l
  by_cases h1 : 20000 < (m.length : Int)
  · rw [decide_eq_true h1, Bool.true_or] at hL
    refine lim_run (fn := Try.f3) fn3 rfl body3 (Nat.le_of_ble_eq_true rfl) ok3 ?_
    simp (config := { maxSteps := 1000000 }) (disch := omega) only [push_cast, ↓reduceIte, Nat.reduceEqDiff, Nat.reduceAdd, Nat.reduceLT, Nat.reduceLeDiff, Nat.reduceBEq, Nat.reduceMul, Nat.reduceSub, Int.reduceToNat, Int.reduceEq, Int.reduceLT, Int.reduceLE, Int.reduceNeg, Int.reduceAdd, Int.reduceSub, Int.reduceMul, Try.f3, kr3, kp3_16, kp3_9, ow3_16, ow3_9, ty3, ty4, ty9, ty22, ty23, ty26, ty34, ty36, tb4, hL, c_Awake]
  · rw [decide_eq_false h1, Bool.false_or] at hL
    by_cases h2 : 20 < (l.length : Int)
    · rw [decide_eq_true h2] at hL
      refine lim_run (fn := Try.f3) fn3 rfl body3 (Nat.le_of_ble_eq_true rfl) ok3 ?_
      simp (config := { maxSteps := 1000000 }) (disch := omega) only [push_cast, ↓reduceIte, Nat.reduceEqDiff, Nat.reduceAdd, Nat.reduceLT, Nat.reduceLeDiff, Nat.reduceBEq, Nat.reduceMul, Nat.reduceSub, Int.reduceToNat, Int.reduceEq, Int.reduceLT, Int.reduceLE, Int.reduceNeg, Int.reduceAdd, Int.reduceSub, Int.reduceMul, Try.f3, kr3, kp3_16, kp3_9, ow3_16, ow3_9, ty3, ty4, ty9, ty22, ty23, ty26, ty34, ty36, tb4, hL, c_Awake]
    · rw [decide_eq_false h2] at hL
      have he := c_Enter true true none none m l hm hb
      by_cases h0 : errEnt m l = 0
      · have hR : entR m l = entQ m l (m, []) := if_pos h0
        rw [h0, hR] at he
        unfold errEnt at h0
        by_cases hn : 4000 < (m.length : Int)
        · rw [if_pos hn] at h0; omega
        · rw [if_neg hn] at h0
          by_cases ho : okAll l
          · rw [if_pos ho] at h0
            have h8 := ho.1
            by_cases hr : 16000 < (m.length : Int) + roomQ l
            · rw [if_pos hr] at h0; omega
            · rw [if_neg hr] at h0
              have hA := errA_mem h0
              obtain ⟨⟨t, e1⟩, u, e2, e3, _⟩ := ent_spec m l m []
              have hle := ent_len m l m []
              have hD : (entQ m l (m, [])).2.length = l.length := by rw [e2]; simpa using e3
              have hD' : ((entQ m l (m, [])).2.length : Int) = l.length := by omega
              have hs := l_Sees9 true true none none m l (by omega) (by omega) (entQ m l (m, [])).1 (entQ m l (m, [])).2 (by omega) hD hb ho.2 (fun i p d hp hd => sees_of hp (hb p (List.mem_of_getElem? hp)) (ho.2 p (List.mem_of_getElem? hp)) (by omega) (by omega) (hA p (List.mem_of_getElem? hp)) hd) l 0 rfl
              have hta := take_app m t
              rw [← e1] at hta
              have hml : m.length ≤ (entQ m l (m, [])).1.length := by rw [e1, List.length_append]; omega
              have sm := r_SameInts false true none none m m hm
              rw [decide_eq_true rfl] at sm
              have hml1 : ¬ ((entQ m l (m, [])).1.length : Int) < m.length := by omega
              have hml2 : (m.length : Int) ≤ (entQ m l (m, [])).1.length := by omega
              simp only [cast1, List.length_append, List.length_cons, List.length_nil, Nat.zero_add, Nat.add_zero, Int.natCast_zero, Int.natCast_add, Int.zero_add, ints_1, ints_0, ] at hs
              refine lim_run (fn := Try.f3) fn3 rfl body3 (Nat.le_of_ble_eq_true rfl) ok3 ?_
              simp (config := { maxSteps := 1000000 }) (disch := omega) only [push_cast, ↓reduceIte, Nat.reduceEqDiff, Nat.reduceAdd, Nat.reduceLT, Nat.reduceLeDiff, Nat.reduceBEq, Nat.reduceMul, Nat.reduceSub, Int.reduceToNat, Int.reduceEq, Int.reduceLT, Int.reduceLE, Int.reduceNeg, Int.reduceAdd, Int.reduceSub, Int.reduceMul, Try.f3, kr3, kp3_16, kp3_9, ow3_16, ow3_9, ty3, ty4, ty9, ty22, ty23, ty26, ty34, ty36, tb4, hL, he, hD', hta, hml1, hml2, Nat.sub_zero, sm, hs, c_Awake]
          · rw [if_neg ho] at h0; omega
      · refine lim_run (fn := Try.f3) fn3 rfl body3 (Nat.le_of_ble_eq_true rfl) ok3 ?_
        simp (config := { maxSteps := 1000000 }) (disch := omega) only [push_cast, ↓reduceIte, Nat.reduceEqDiff, Nat.reduceAdd, Nat.reduceLT, Nat.reduceLeDiff, Nat.reduceBEq, Nat.reduceMul, Nat.reduceSub, Int.reduceToNat, Int.reduceEq, Int.reduceLT, Int.reduceLE, Int.reduceNeg, Int.reduceAdd, Int.reduceSub, Int.reduceMul, Try.f3, kr3, kp3_16, kp3_9, ow3_16, ow3_9, ty3, ty4, ty9, ty22, ty23, ty26, ty34, ty36, tb4, hL, he, h0, c_Awake]
end
def okPassQ (p : PassQ) : Prop := okDscQ p.1 ∧ p.2.1.size ≤ 140737488351232 ∧ True
theorem bdP_of {p : PassQ} (h : okPassQ p) : bdP p := ⟨h.1.1.2, len_bd h.1.2.1.1, len_bd h.1.2.2.1⟩
theorem pass_bd {l : List PassQ} (h : l.length * 72 ≤ 140737488351232) : (l.length : Int) ≤ 9223372036854775806 := by omega
theorem ArgueSees_true (m : List Int) (l : List PassQ) (hm : okIntsQ m) (hl : l.length * 80 ≤ 140737488351232 ∧ ∀ p ∈ l, okPassQ p) : CALL 3 [SL true none m.length (ints m), PsT true none l] = some (B true, []) :=
  ArgueSees_true' m l (len_bd hm.1) (by omega) fun p hp => bdP_of (hl.2 p hp)
theorem seg_mid : ∀ (X o t : List Int), segQ (o ++ (X ++ t)) o.length X.length = X
  | [], o, t => rfl
  | x :: X, o, t => by
    have ih := seg_mid X (o ++ [x]) t
    rw [List.length_cons, segQ]
    rw [List.append_assoc, List.length_append] at ih
    simp only [List.length_cons, List.length_nil, List.singleton_append, Nat.zero_add] at ih
    rw [List.cons_append, ih]
    congr 1
    simp
theorem packP_eq {m : List Int} {p : PassQ} (h : errP m p.1.1 p.1.2.1 p.1.2.2 = 0) : packP m p = pickM m (plP p) := by
  unfold packP packQ
  rw [if_pos h]; rfl
theorem lev_back (m : List Int) : ∀ (r : List PassQ) (out : List Int) (av : List DscQ), (∀ p ∈ r, errP m p.1.1 p.1.2.1 p.1.2.2 = 0) → levQ (entQ m r (out, av)).1 r m out.length = m ∧ (entQ m r (out, av)).1.length = out.length + roomN r
  | [], out, av, _ => ⟨rfl, rfl⟩
  | p :: r, out, av, h => by
    have hp := packP_eq (h p (by simp))
    have hr : ∀ q ∈ r, errP m q.1.1 q.1.2.1 q.1.2.2 = 0 := fun q hq => h q (by simp [hq])
    by_cases hx : packedQ p = true
    · have hc : entQ m (p :: r) (out, av) = entQ m r (out ++ packP m p, av ++ [((out.length : Int), wholeE p.1.2.1, wholeT p.1.2.1)]) := by rw [entQ, if_pos hx]
      obtain ⟨⟨t, h1⟩, _⟩ := ent_spec m r (out ++ packP m p) (av ++ [((out.length : Int), wholeE p.1.2.1, wholeT p.1.2.1)])
      obtain ⟨i1, i2⟩ := lev_back m r (out ++ packP m p) (av ++ [((out.length : Int), wholeE p.1.2.1, wholeT p.1.2.1)]) hr
      have hl : (packP m p).length = (plP p).length := by rw [hp, pickM_len]
      rw [hc]
      refine ⟨?_, ?_⟩
      · rw [levQ, if_pos hx]
        have sg : segQ (entQ m r (out ++ packP m p, av ++ [((out.length : Int), wholeE p.1.2.1, wholeT p.1.2.1)])).1 out.length (plP p).length = packP m p := by
          rw [h1, List.append_assoc, ← hl, seg_mid]
        have pb : (if chP p = true then putL (plP p) (packP m p) m else m) = m := by
          split
          · rw [hp, put_pick]
          · rfl
        rw [sg, pb]
        rw [List.length_append, hl] at i1
        exact i1
      · rw [i2, List.length_append, hl, roomN, if_pos hx]; omega
    · have hc : entQ m (p :: r) (out, av) = entQ m r (out, av ++ [p.1]) := by rw [entQ, if_neg hx]
      obtain ⟨i1, i2⟩ := lev_back m r out (av ++ [p.1]) hr
      rw [hc, levQ, if_neg hx, i2, roomN, if_neg hx]
      exact ⟨i1, by omega⟩
theorem r_SameD (d : DscQ) (h1 : (d.2.1.length : Int) ≤ 9223372036854775806) (h2 : (d.2.2.length : Int) ≤ 9223372036854775806) : CALL 20 [Dsc d.1 true none d.2.1 true none d.2.2, Dsc d.1 true none d.2.1 true none d.2.2] = some (B true, []) := by
  have s1 := r_SameInts true true none none d.2.1 d.2.1 h1
  have s2 := r_SameInts true true none none d.2.2 d.2.2 h2
  rw [decide_eq_true rfl] at s1 s2
  refine lim_run (fn := Try.f20) fn20 rfl body20 (Nat.le_of_ble_eq_true rfl) ok20 ?_
  simp (config := { maxSteps := 1000000 }) (disch := omega) only [push_cast, ↓reduceIte, Nat.reduceEqDiff, Nat.reduceAdd, Nat.reduceLT, Nat.reduceLeDiff, Nat.reduceBEq, Nat.reduceMul, Nat.reduceSub, Int.reduceToNat, Int.reduceEq, Int.reduceLT, Int.reduceLE, Int.reduceNeg, Int.reduceAdd, Int.reduceSub, Int.reduceMul, Try.f20, kr20, ty3, ty4, ty22, ty34, tb4, s1, s2]
theorem l_same4 (b1 b2 : Bool) (c1 c2 : Option Nat) (D : List DscQ) (hD : (D.length : Int) ≤ 9223372036854775806) (hb : ∀ d ∈ D, (d.2.1.length : Int) ≤ 9223372036854775806 ∧ (d.2.2.length : Int) ≤ 9223372036854775806) : ∀ (r : List DscQ) (i : Nat), D.drop i = r →
    lp E0 pr0 22 4 ⟨[(0, SL b1 c1 D.length (D.flatMap dscC)), (1, SL b2 c2 D.length (D.flatMap dscC)), (5, I i)], [], 0⟩ = some (.exit 0, ⟨[], [], 0⟩) := by
  intro r
  induction r with
  | nil =>
    intro i h1
    have h5 := drop_nil h1
    have h6 : ¬ (i : Int) < D.length := by omega
    rw [lp_eq lp22_4]
    simp (config := { maxSteps := 1000000 }) (disch := omega) only [push_cast, ↓reduceIte, Nat.reduceEqDiff, Nat.reduceAdd, Nat.reduceLT, Nat.reduceLeDiff, Nat.reduceBEq, Nat.reduceMul, Nat.reduceSub, Int.reduceToNat, Int.reduceEq, Int.reduceLT, Int.reduceLE, Int.reduceNeg, Int.reduceAdd, Int.reduceSub, Int.reduceMul, Try.f22, kr22, kp22_4, ow22_4, ty3, ty4, ty22, ty26, ty34, tb4, h6]
  | cons d r ih =>
    intro i h1
    obtain ⟨g1, g2, g3⟩ := drop_cons h1
    have g8 : (i : Int) < D.length := by omega
    have hd := hb d (List.mem_of_getElem? g2)
    have hs := r_SameD d hd.1 hd.2
    have ih' := ih (i + 1) g3
    simp only [cast1, List.length_append, List.length_cons, List.length_nil, Nat.zero_add, Nat.add_zero, Int.natCast_zero, Int.natCast_add, Int.zero_add, ints_1, ints_0, ] at ih'
    rw [lp_eq lp22_4]
    simp (config := { maxSteps := 1000000 }) (disch := omega) only [push_cast, ↓reduceIte, Nat.reduceEqDiff, Nat.reduceAdd, Nat.reduceLT, Nat.reduceLeDiff, Nat.reduceBEq, Nat.reduceMul, Nat.reduceSub, Int.reduceToNat, Int.reduceEq, Int.reduceLT, Int.reduceLE, Int.reduceNeg, Int.reduceAdd, Int.reduceSub, Int.reduceMul, Try.f22, kr22, kp22_4, ow22_4, ty3, ty4, ty22, ty26, ty34, tb4, g1, g8, dc0 g2, dc1 g2, dc2 g2, hs, ih']
theorem c_sameDescs (b1 b2 : Bool) (c1 c2 : Option Nat) (D : List DscQ) (hD : (D.length : Int) ≤ 9223372036854775806) (hb : ∀ d ∈ D, (d.2.1.length : Int) ≤ 9223372036854775806 ∧ (d.2.2.length : Int) ≤ 9223372036854775806) :
    CALL 22 [SL b1 c1 D.length (D.flatMap dscC), SL b2 c2 D.length (D.flatMap dscC)] = some (B true, []) := by
  have h := l_same4 b1 b2 c1 c2 D hD hb D 0 rfl
  simp only [cast1, List.length_append, List.length_cons, List.length_nil, Nat.zero_add, Nat.add_zero, Int.natCast_zero, Int.natCast_add, Int.zero_add, ints_1, ints_0, ] at h
  refine lim_run (fn := Try.f22) fn22 rfl body22 (Nat.le_of_ble_eq_true rfl) ok22 ?_
  simp (config := { maxSteps := 1000000 }) (disch := omega) only [push_cast, ↓reduceIte, Nat.reduceEqDiff, Nat.reduceAdd, Nat.reduceLT, Nat.reduceLeDiff, Nat.reduceBEq, Nat.reduceMul, Nat.reduceSub, Int.reduceToNat, Int.reduceEq, Int.reduceLT, Int.reduceLE, Int.reduceNeg, Int.reduceAdd, Int.reduceSub, Int.reduceMul, Try.f22, kr22, kp22_4, ow22_4, ty3, ty4, ty22, ty26, ty34, tb4, h]
theorem levR_len (m : List Int) (l : List PassQ) (n : Int) : (levR m l n).length ≤ m.length := by
  unfold levR
  split
  · rw [levQ_len, List.length_take]; omega
  · simp
section
variable (m : List Int) (l : List PassQ) (after : List Int)
/-- What is known when Enter has no error. -/
theorem ent_ok (hb : ∀ p ∈ l, bdP p) (h0 : errEnt m l = 0) : entR m l = entQ m l (m, []) ∧ m.length ≤ 4000 ∧ okAll l ∧ (m.length : Int) + roomQ l ≤ 16000 ∧ errA m.length l = 0 := by
  refine ⟨if_pos h0, ?_⟩
  unfold errEnt at h0
  by_cases hn : 4000 < (m.length : Int)
  · rw [if_pos hn] at h0; omega
  · rw [if_neg hn] at h0
    by_cases ho : okAll l
    · rw [if_pos ho] at h0
      by_cases hr : 16000 < (m.length : Int) + roomQ l
      · rw [if_pos hr] at h0; omega
      · rw [if_neg hr] at h0
        exact ⟨by omega, ho, by omega, h0⟩
    · rw [if_neg ho] at h0; omega
theorem back_ok (hb : ∀ p ∈ l, bdP p) (h0 : errEnt m l = 0) : errL (entR m l).1 l m.length = 0 ∧ levR (entR m l).1 l m.length = m := by
  obtain ⟨e1, e2, e3, e4, e5⟩ := ent_ok m l hb h0
  have hA := errA_mem e5
  obtain ⟨k1, k2⟩ := lev_back m l m [] (fun p hp => by unfold errP; rw [if_neg (by omega)]; exact hA p hp)
  obtain ⟨⟨t, k3⟩, _⟩ := ent_spec m l m []
  have hr := roomN_eq l
  have hL : errL (entR m l).1 l m.length = 0 := by
    rw [e1]
    unfold errL
    rw [if_pos ⟨⟨⟨by omega, by omega⟩, by omega, by omega⟩, e3⟩, Int.toNat_natCast, e5]
  refine ⟨hL, ?_⟩
  unfold levR
  rw [if_pos hL, e1, Int.toNat_natCast]
  have : (entQ m l (m, [])).1.take m.length = m := by rw [k3]; simp
  rw [this, k1]
theorem entD_bd (hb : ∀ p ∈ l, bdP p) : (entR m l).1.length ≤ 100000 ∧ (entR m l).2.length ≤ 8 ∧ ∀ d ∈ (entR m l).2, (d.2.1.length : Int) ≤ 9223372036854775806 ∧ (d.2.2.length : Int) ≤ 9223372036854775806 := by
  by_cases h0 : errEnt m l = 0
  · obtain ⟨e1, e2, e3, e4, e5⟩ := ent_ok m l hb h0
    have hA := errA_mem e5
    obtain ⟨_, u, k2, k3, _⟩ := ent_spec m l m []
    have hle := ent_len m l m []
    have e30 := e3.1
    rw [e1]
    have hlen : (entQ m l (m, [])).2.length = l.length := by rw [k2]; simpa using k3
    refine ⟨by omega, by omega, fun d hd => ?_⟩
    obtain ⟨i, hi⟩ := List.getElem?_of_mem hd
    have hil : i < l.length := by
      rcases Nat.lt_or_ge i l.length with h | h
      · exact h
      · rw [List.getElem?_eq_none (by omega)] at hi; simp at hi
    have hp : l[i]? = some l[i] := List.getElem?_eq_getElem hil
    exact (sees_of hp (hb _ (List.mem_of_getElem? hp)) (e3.2 _ (List.mem_of_getElem? hp)) (by omega) (by omega) (hA _ (List.mem_of_getElem? hp)) hi).2.2.2
  · unfold entR
    rw [if_neg h0]
    simp
theorem ArgueEnters_true' (hm : (m.length : Int) ≤ 9223372036854775806) (hlb : (l.length : Int) ≤ 9223372036854775806) (ha : (after.length : Int) ≤ 9223372036854775806) (hb : ∀ p ∈ l, bdP p) :
    CALL 6 [SL true none m.length (ints m), PsT true none l, SL true none after.length (ints after)] = some (B true, []) := by
  have hL := c_Large true true none none m l
  by_cases h1 : 20000 < (m.length : Int)
  · rw [decide_eq_true h1, Bool.true_or] at hL
    refine lim_run (fn := Try.f6) fn6 rfl body6 (Nat.le_of_ble_eq_true rfl) ok6 ?_
    simp (config := { maxSteps := 1000000 }) (disch := omega) only [push_cast, ↓reduceIte, Nat.reduceEqDiff, Nat.reduceAdd, Nat.reduceLT, Nat.reduceLeDiff, Nat.reduceBEq, Nat.reduceMul, Nat.reduceSub, Int.reduceToNat, Int.reduceEq, Int.reduceLT, Int.reduceLE, Int.reduceNeg, Int.reduceAdd, Int.reduceSub, Int.reduceMul, Try.f6, kr6, ty3, ty4, ty22, tb4, hL, c_Awake]
  · rw [decide_eq_false h1, Bool.false_or] at hL
    by_cases h2 : 20 < (l.length : Int)
    · rw [decide_eq_true h2] at hL
      refine lim_run (fn := Try.f6) fn6 rfl body6 (Nat.le_of_ble_eq_true rfl) ok6 ?_
      simp (config := { maxSteps := 1000000 }) (disch := omega) only [push_cast, ↓reduceIte, Nat.reduceEqDiff, Nat.reduceAdd, Nat.reduceLT, Nat.reduceLeDiff, Nat.reduceBEq, Nat.reduceMul, Nat.reduceSub, Int.reduceToNat, Int.reduceEq, Int.reduceLT, Int.reduceLE, Int.reduceNeg, Int.reduceAdd, Int.reduceSub, Int.reduceMul, Try.f6, kr6, ty3, ty4, ty22, tb4, hL, c_Awake]
    · rw [decide_eq_false h2] at hL
      by_cases h3 : 40000 < (after.length : Int)
      · refine lim_run (fn := Try.f6) fn6 rfl body6 (Nat.le_of_ble_eq_true rfl) ok6 ?_
        simp (config := { maxSteps := 1000000 }) (disch := omega) only [push_cast, ↓reduceIte, Nat.reduceEqDiff, Nat.reduceAdd, Nat.reduceLT, Nat.reduceLeDiff, Nat.reduceBEq, Nat.reduceMul, Nat.reduceSub, Int.reduceToNat, Int.reduceEq, Int.reduceLT, Int.reduceLE, Int.reduceNeg, Int.reduceAdd, Int.reduceSub, Int.reduceMul, Try.f6, kr6, ty3, ty4, ty22, tb4, hL, h3, c_Awake]
      · have he := c_Enter true true none none m l hm hb
        have hf := r_Enter true true none none m l hm hlb hb
        have hg := c_Leave true true none none after l m.length ha hb
        have hh := r_Leave true true none none after l m.length (by omega) hlb hb
        obtain ⟨n1, n2, n3⟩ := entD_bd m l hb
        have n4 := levR_len after l m.length
        have s1 := r_SameInts false false none none (entR m l).1 (entR m l).1 (by omega)
        have s2 := c_sameDescs false false none none (entR m l).2 (by omega) n3
        have s3 := r_SameInts false false none none (levR after l m.length) (levR after l m.length) (by omega)
        rw [decide_eq_true rfl] at s1 s3
        have rd : rowAt ((entR m l).2.flatMap dscC) 0 ((entR m l).2.length * 3) = (entR m l).2.flatMap dscC := rowAt_all _ _ (by rw [flat_len dscC_len])
        by_cases h0 : errEnt m l = 0
        · obtain ⟨k1, k2⟩ := back_ok m l hb h0
          have hk := c_Leave true false none none (entR m l).1 l m.length (by omega) hb
          rw [k1, k2] at hk
          have s4 := r_SameInts false true none none m m hm
          rw [decide_eq_true rfl] at s4
          refine lim_run (fn := Try.f6) fn6 rfl body6 (Nat.le_of_ble_eq_true rfl) ok6 ?_
          simp (config := { maxSteps := 1000000 }) (disch := omega) only [push_cast, ↓reduceIte, Nat.reduceEqDiff, Nat.reduceAdd, Nat.reduceLT, Nat.reduceLeDiff, Nat.reduceBEq, Nat.reduceMul, Nat.reduceSub, Int.reduceToNat, Int.reduceEq, Int.reduceLT, Int.reduceLE, Int.reduceNeg, Int.reduceAdd, Int.reduceSub, Int.reduceMul, Try.f6, kr6, ty3, ty4, ty22, tb4, hL, h3, he, hf, rd, hg, hh, s1, s2, s3, s4, h0, hk, c_Awake]
        · refine lim_run (fn := Try.f6) fn6 rfl body6 (Nat.le_of_ble_eq_true rfl) ok6 ?_
          simp (config := { maxSteps := 1000000 }) (disch := omega) only [push_cast, ↓reduceIte, Nat.reduceEqDiff, Nat.reduceAdd, Nat.reduceLT, Nat.reduceLeDiff, Nat.reduceBEq, Nat.reduceMul, Nat.reduceSub, Int.reduceToNat, Int.reduceEq, Int.reduceLT, Int.reduceLE, Int.reduceNeg, Int.reduceAdd, Int.reduceSub, Int.reduceMul, Try.f6, kr6, ty3, ty4, ty22, tb4, hL, h3, he, hf, rd, hg, hh, s1, s2, s3, h0, c_Awake]
end
theorem ArgueEnters_true (m : List Int) (l : List PassQ) (after : List Int) (hm : okIntsQ m) (hl : l.length * 80 ≤ 140737488351232 ∧ ∀ p ∈ l, okPassQ p) (ha : okIntsQ after) : CALL 6 [SL true none m.length (ints m), PsT true none l, SL true none after.length (ints after)] = some (B true, []) :=
  ArgueEnters_true' m l after (len_bd hm.1) (by omega) (len_bd ha.1) fun p hp => bdP_of (hl.2 p hp)
end Go.Proofs.Ytochkebkfoophaa.Tev
