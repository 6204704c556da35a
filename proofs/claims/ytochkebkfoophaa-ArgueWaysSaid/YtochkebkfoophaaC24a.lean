/- argue.asked, Pack, Unpack, and the document's. -/
import Derived.Test.YtochkebkfoophaaCSec3
import Derived.Test.YtochkebkfoophaaCRef
namespace Go.Proofs.Ytochkebkfoophaa.Tev
open Go Go.RowKit Go.Proofs Go.Proofs.Ytochkebkfoophaa.Q
set_option linter.unusedSectionVars false
set_option maxRecDepth 100000
set_option maxHeartbeats 0
set_option linter.unusedSimpArgs false
set_option linter.unusedVariables false
/-! The error of a memory and a descriptor; what is packed. -/
def outQ (n : Nat) (b : Int) (E S : List Int) : Bool := (placesQ b E S).any fun x => decide ((n : Int) ≤ x)
def errI (n : Nat) (b : Int) (E S : List Int) : Int := if okD b E S then (if outQ n b E S = true then 92 else 0) else 2
theorem errI_ok {n : Nat} {b : Int} {E S : List Int} : errI n b E S = 0 ↔ okD b E S ∧ outQ n b E S = false := by
  unfold errI
  by_cases h : okD b E S
  · cases h2 : outQ n b E S <;> simp [h]
  · simp [h]
def plI (n : Nat) (b : Int) (E S : List Int) : List Int := if errI n b E S = 0 then placesQ b E S else []
theorem plI_of {n : Nat} {b : Int} {E S : List Int} (h : errI n b E S = 0) : plI n b E S = placesQ b E S := if_pos h
theorem plI_not {n : Nat} {b : Int} {E S : List Int} (h : ¬ errI n b E S = 0) : plI n b E S = [] := if_neg h
theorem plI_len (n : Nat) (b : Int) (E S : List Int) : (plI n b E S).length ≤ 4000 := by
  unfold plI
  split
  · exact placesQ_len b E S
  · simp
theorem plI_bd {n : Nat} {b : Int} {E S : List Int} (hb : b ≤ 9223372036854775807) {x : Int} (h : x ∈ plI n b E S) : 0 ≤ x ∧ x < n := by
  by_cases he : errI n b E S = 0
  · rw [plI_of he] at h
    have h1 := (errI_ok.1 he).2
    unfold outQ at h1
    rw [List.any_eq_false] at h1
    have h2 := h1 x h
    have h3 := placesQ_bd hb h
    simp only [decide_eq_true_eq] at h2
    omega
  · rw [plI_not he] at h; simp at h
def pickM (m L : List Int) : List Int := L.map fun x => m.getD x.toNat 0
theorem pickM_len (m L : List Int) : (pickM m L).length = L.length := by simp [pickM]
def putL : List Int → List Int → List Int → List Int
  | x :: r, y :: q, m => putL r q (m.set x.toNat y)
  | _, _, m => m
theorem putL_len : ∀ (r q m : List Int), (putL r q m).length = m.length
  | [], q, m => rfl
  | x :: r, [], m => rfl
  | x :: r, y :: q, m => by rw [putL, putL_len, List.length_set]
theorem row_put (r q m : List Int) : rowAt (ints (putL r q m)) 0 m.length = ints (putL r q m) := by
  have := rowAt_ints (putL r q m)
  rwa [putL_len] at this
def errP (m : List Int) (b : Int) (E S : List Int) : Int := if 4000 < (m.length : Int) then 2 else errI m.length b E S
def packQ (m : List Int) (b : Int) (E S : List Int) : List Int := if errP m b E S = 0 then pickM m (placesQ b E S) else []
def errU (m : List Int) (b : Int) (E S l : List Int) : Int := if errP m b E S = 0 then (if ((placesQ b E S).length : Int) = l.length then 0 else 30) else errP m b E S
def unpQ (m : List Int) (b : Int) (E S l : List Int) : List Int := if errU m b E S l = 0 then putL (placesQ b E S) l m else []
section
variable (base : Int) (b b1 b2 b5 : Bool) (c c1 c2 c5 : Option Nat) (m E S l : List Int)
theorem c_asked1 (x : Int) (hm : (m.length : Int) ≤ 9223372036854775806) : CALL 57 [I x, .rb [US b c m.length (ints m)] 0] = some (B (decide ((m.length : Int) ≤ x)), []) := by
  refine lim_run (fn := Try.f57) fn57 rfl body57 (Nat.le_of_ble_eq_true rfl) ok57 ?_
  simp (config := { maxSteps := 1000000 }) (disch := omega) only [push_cast, ↓reduceIte, Nat.reduceEqDiff, Nat.reduceAdd, Nat.reduceLT, Nat.reduceLeDiff, Nat.reduceBEq, Nat.reduceMul, Nat.reduceSub, Int.reduceToNat, Int.reduceEq, Int.reduceLT, Int.reduceLE, Int.reduceNeg, Int.reduceAdd, Int.reduceSub, Int.reduceMul, Try.f57, kr57, ty3, ty4, ty22, tb4]
theorem c_asked (hE : (E.length : Int) ≤ 9223372036854775806) (hS : (S.length : Int) ≤ 9223372036854775806) (hm : (m.length : Int) ≤ 9223372036854775806) :
    CALL 36 [SL b c m.length (ints m), Dsc base b1 c1 E b2 c2 S] = some (.tup [.sl 0 0 (plI m.length base E S).length 1 none, I (errI m.length base E S)], [ints (plI m.length base E S)]) := by
  have h1 := c_Places base b1 b2 c1 c2 E S hE hS
  have n1 := placesQ_len base E S
  have hc := c_ContainsFunc 57 [.rb [US b c m.length (ints m)] 0] _ (fun x => c_asked1 b c m x hm) (shut_rb _ _) false none (placesQ base E S) (by omega)
  change _ = some (B (outQ m.length base E S), []) at hc
  unfold plI errI
  refine lim_run (fn := Try.f36) fn36 rfl body36 (Nat.le_of_ble_eq_true rfl) ok36 ?_
  by_cases hd : okD base E S
  · rw [errD_ok.2 hd] at h1
    cases hq : outQ m.length base E S with
    | true =>
      rw [hq] at hc
      simp (config := { maxSteps := 1000000 }) (disch := omega) only [push_cast, ↓reduceIte, Nat.reduceEqDiff, Nat.reduceAdd, Nat.reduceLT, Nat.reduceLeDiff, Nat.reduceBEq, Nat.reduceMul, Nat.reduceSub, Int.reduceToNat, Int.reduceEq, Int.reduceLT, Int.reduceLE, Int.reduceNeg, Int.reduceAdd, Int.reduceSub, Int.reduceMul, Try.f36, kr36, ty3, ty22, ty27, ty34, h1, hd, hc]
    | false =>
      rw [hq] at hc
      simp (config := { maxSteps := 1000000 }) (disch := omega) only [push_cast, ↓reduceIte, Nat.reduceEqDiff, Nat.reduceAdd, Nat.reduceLT, Nat.reduceLeDiff, Nat.reduceBEq, Nat.reduceMul, Nat.reduceSub, Int.reduceToNat, Int.reduceEq, Int.reduceLT, Int.reduceLE, Int.reduceNeg, Int.reduceAdd, Int.reduceSub, Int.reduceMul, Try.f36, kr36, ty3, ty22, ty27, ty34, h1, hd, hc]
  · rw [show errD base E S = 2 from if_neg hd] at h1
    simp (config := { maxSteps := 1000000 }) (disch := omega) only [push_cast, ↓reduceIte, Nat.reduceEqDiff, Nat.reduceAdd, Nat.reduceLT, Nat.reduceLeDiff, Nat.reduceBEq, Nat.reduceMul, Nat.reduceSub, Int.reduceToNat, Int.reduceEq, Int.reduceLT, Int.reduceLE, Int.reduceNeg, Int.reduceAdd, Int.reduceSub, Int.reduceMul, Try.f36, kr36, ty3, ty22, ty27, ty34, h1, hd]
theorem l_Pack8 (L : List Int) (hm : m.length ≤ 4000) (hL : L.length ≤ 4000) (hb : ∀ x ∈ L, 0 ≤ x ∧ x < m.length) : ∀ (r : List Int) (i : Nat) (out : List Int), L.drop i = r → out.length = i →
    lp E0 pr0 14 8 ⟨[(0, SL b c m.length (ints m)), (8, .sl 0 0 out.length 1 none), (23, .sl 1 0 L.length 1 none), (24, I L.length), (25, I i)], [(0, .arr (ints out) 0 1), (1, .arr (ints L) 1 1)], 2⟩ =
      some (.exit 0, ⟨[(8, .sl 0 0 (out ++ pickM m r).length 1 none)], [(0, .arr (ints (out ++ pickM m r)) 0 1)], 1⟩) := by
  intro r
  induction r with
  | nil =>
    intro i out h1 h2
    have h5 := drop_nil h1
    have h6 : ¬ (i : Int) < L.length := by omega
    rw [lp_eq lp14_8]
    simp (config := { maxSteps := 1000000 }) (disch := omega) only [push_cast, ↓reduceIte, Nat.reduceEqDiff, Nat.reduceAdd, Nat.reduceLT, Nat.reduceLeDiff, Nat.reduceBEq, Nat.reduceMul, Nat.reduceSub, Int.reduceToNat, Int.reduceEq, Int.reduceLT, Int.reduceLE, Int.reduceNeg, Int.reduceAdd, Int.reduceSub, Int.reduceMul, Try.f14, kr14, kp14_8, ow14_8, ty3, ty22, ty27, ty34, h6, pickM, List.map_nil, List.append_nil]
  | cons x r ih =>
    intro i out h1 h2
    obtain ⟨g1, g2, g3⟩ := drop_cons h1
    have g8 : (i : Int) < L.length := by omega
    obtain ⟨e0, e1⟩ := hb x (List.mem_of_getElem? g2)
    obtain ⟨k, rfl⟩ : ∃ k : Nat, x = k := ⟨x.toNat, by omega⟩
    have g9 : k < m.length := by omega
    have hk : m[k]? = some (m.getD k 0) := by simp [g9]
    have e : out ++ [m.getD k 0] ++ pickM m r = out ++ pickM m ((k : Int) :: r) := by simp [pickM]
    have ih' := ih (i + 1) (out ++ [m.getD k 0]) g3 (by simp [h2])
    rw [e] at ih'
    simp only [cast1, List.length_append, List.length_cons, List.length_nil, Nat.zero_add, Nat.add_zero, Int.natCast_zero, Int.natCast_add, Int.zero_add, ints_1, ints_0, ] at ih'
    rw [lp_eq lp14_8]
    simp (config := { maxSteps := 1000000 }) (disch := omega) only [push_cast, ↓reduceIte, Nat.reduceEqDiff, Nat.reduceAdd, Nat.reduceLT, Nat.reduceLeDiff, Nat.reduceBEq, Nat.reduceMul, Nat.reduceSub, Int.reduceToNat, Int.reduceEq, Int.reduceLT, Int.reduceLE, Int.reduceNeg, Int.reduceAdd, Int.reduceSub, Int.reduceMul, Try.f14, kr14, kp14_8, ow14_8, ty3, ty22, ty27, ty34, g1, g8, g9, e1, getD_of g2, getD_of hk, ih']
theorem c_Pack (hE : (E.length : Int) ≤ 9223372036854775806) (hS : (S.length : Int) ≤ 9223372036854775806) (hm : (m.length : Int) ≤ 9223372036854775806) (hb : base ≤ 9223372036854775807) :
    CALL 14 [SL b c m.length (ints m), Dsc base b1 c1 E b2 c2 S] = some (.tup [.sl 0 0 (packQ m base E S).length 1 none, I (errP m base E S)], [ints (packQ m base E S)]) := by
  have h1 := c_asked base b b1 b2 c c1 c2 m E S hE hS hm
  unfold packQ errP
  refine lim_run (fn := Try.f14) fn14 rfl body14 (Nat.le_of_ble_eq_true rfl) ok14 ?_
  by_cases hn : 4000 < (m.length : Int)
  · simp (config := { maxSteps := 1000000 }) (disch := omega) only [push_cast, ↓reduceIte, Nat.reduceEqDiff, Nat.reduceAdd, Nat.reduceLT, Nat.reduceLeDiff, Nat.reduceBEq, Nat.reduceMul, Nat.reduceSub, Int.reduceToNat, Int.reduceEq, Int.reduceLT, Int.reduceLE, Int.reduceNeg, Int.reduceAdd, Int.reduceSub, Int.reduceMul, Try.f14, kr14, kp14_8, ow14_8, ty3, ty22, ty27, ty34, hn]
  · by_cases he : errI m.length base E S = 0
    · have hl := l_Pack8 b c m (plI m.length base E S) (by omega) (plI_len _ _ _ _) (fun x hx => plI_bd hb hx) (plI m.length base E S) 0 [] rfl rfl
      rw [plI_of he, he] at h1
      rw [plI_of he, List.nil_append] at hl
      have n1 := placesQ_len base E S
      simp only [cast1, List.length_append, List.length_cons, List.length_nil, Nat.zero_add, Nat.add_zero, Int.natCast_zero, Int.natCast_add, Int.zero_add, ints_1, ints_0, ] at hl
      simp (config := { maxSteps := 1000000 }) (disch := omega) only [push_cast, ↓reduceIte, Nat.reduceEqDiff, Nat.reduceAdd, Nat.reduceLT, Nat.reduceLeDiff, Nat.reduceBEq, Nat.reduceMul, Nat.reduceSub, Int.reduceToNat, Int.reduceEq, Int.reduceLT, Int.reduceLE, Int.reduceNeg, Int.reduceAdd, Int.reduceSub, Int.reduceMul, Try.f14, kr14, kp14_8, ow14_8, ty3, ty22, ty27, ty34, hn, h1, he, hl]
    · simp (config := { maxSteps := 1000000 }) (disch := omega) only [push_cast, ↓reduceIte, Nat.reduceEqDiff, Nat.reduceAdd, Nat.reduceLT, Nat.reduceLeDiff, Nat.reduceBEq, Nat.reduceMul, Nat.reduceSub, Int.reduceToNat, Int.reduceEq, Int.reduceLT, Int.reduceLE, Int.reduceNeg, Int.reduceAdd, Int.reduceSub, Int.reduceMul, Try.f14, kr14, kp14_8, ow14_8, ty3, ty22, ty27, ty34, hn, h1, he]
theorem l_Unpack10 (L : List Int) (hm : m.length ≤ 4000) (hL : L.length ≤ 4000) (hl : L.length = l.length) (hb : ∀ x ∈ L, 0 ≤ x ∧ x < m.length) : ∀ (r q : List Int) (i : Nat) (out : List Int) (cp : Option Nat), L.drop i = r → l.drop i = q → out.length = m.length →
    lp E0 pr0 16 10 ⟨[(2, SL b5 c5 l.length (ints l)), (10, .sl 0 0 m.length 1 cp), (34, .sl 1 0 L.length 1 none), (35, I L.length), (36, I i)], [(0, .arr (ints out) 0 1), (1, .arr (ints L) 1 1)], 2⟩ =
      some (.exit 1, ⟨[(10, .sl 0 0 m.length 1 cp)], [(0, .arr (ints (putL r q out)) 0 1)], 1⟩) := by
  intro r
  induction r with
  | nil =>
    intro q i out cp h1 h2 h3
    have h5 := drop_nil h1
    have h6 : ¬ (i : Int) < L.length := by omega
    rw [lp_eq lp16_10]
    simp (config := { maxSteps := 1000000 }) (disch := omega) only [push_cast, ↓reduceIte, Nat.reduceEqDiff, Nat.reduceAdd, Nat.reduceLT, Nat.reduceLeDiff, Nat.reduceBEq, Nat.reduceMul, Nat.reduceSub, Int.reduceToNat, Int.reduceEq, Int.reduceLT, Int.reduceLE, Int.reduceNeg, Int.reduceAdd, Int.reduceSub, Int.reduceMul, Try.f16, kr16, kp16_10, ow16_10, ty3, ty22, ty27, ty34, h6, putL]
  | cons x r ih =>
    intro q i out cp h1 h2 h3
    obtain ⟨g1, g2, g3⟩ := drop_cons h1
    obtain ⟨y, q, rfl⟩ : ∃ s q', q = s :: q' := by
      cases q with
      | nil => have := drop_nil h2; omega
      | cons s q => exact ⟨s, q, rfl⟩
    obtain ⟨g4, g5, g6⟩ := drop_cons h2
    have g7 : (i : Int) < l.length := by omega
    have g8 : (i : Int) < L.length := by omega
    obtain ⟨e0, e1⟩ := hb x (List.mem_of_getElem? g2)
    obtain ⟨k, rfl⟩ : ∃ k : Nat, x = k := ⟨x.toNat, by omega⟩
    have g9 : k < out.length := by omega
    have ih' := ih q (i + 1) (out.set k y) cp g3 g6 (by simp [h3])
    simp only [cast1, List.length_append, List.length_cons, List.length_nil, Nat.zero_add, Nat.add_zero, Int.natCast_zero, Int.natCast_add, Int.zero_add, ints_1, ints_0, ] at ih'
    rw [lp_eq lp16_10]
    simp (config := { maxSteps := 1000000 }) (disch := omega) only [push_cast, ↓reduceIte, Nat.reduceEqDiff, Nat.reduceAdd, Nat.reduceLT, Nat.reduceLeDiff, Nat.reduceBEq, Nat.reduceMul, Nat.reduceSub, Int.reduceToNat, Int.reduceEq, Int.reduceLT, Int.reduceLE, Int.reduceNeg, Int.reduceAdd, Int.reduceSub, Int.reduceMul, Try.f16, kr16, kp16_10, ow16_10, ty3, ty22, ty27, ty34, g1, g4, g7, g8, g9, h3, e1, getD_of g2, getD_of g5, splice_ints y g9, ih', putL, ne_eq]
theorem c_Unpack (hE : (E.length : Int) ≤ 9223372036854775806) (hS : (S.length : Int) ≤ 9223372036854775806) (hm : (m.length : Int) ≤ 9223372036854775806) (hll : (l.length : Int) ≤ 9223372036854775806) (hb : base ≤ 9223372036854775807) :
    CALL 16 [SL b c m.length (ints m), Dsc base b1 c1 E b2 c2 S, SL b5 c5 l.length (ints l)] = some (.tup [.sl 0 0 (unpQ m base E S l).length 1 none, I (errU m base E S l)], [ints (unpQ m base E S l)]) := by
  have h1 := c_asked base b b1 b2 c c1 c2 m E S hE hS hm
  unfold unpQ errU errP
  refine lim_run (fn := Try.f16) fn16 rfl body16 (Nat.le_of_ble_eq_true rfl) ok16 ?_
  by_cases hn : 4000 < (m.length : Int)
  · simp (config := { maxSteps := 1000000 }) (disch := omega) only [push_cast, ↓reduceIte, Nat.reduceEqDiff, Nat.reduceAdd, Nat.reduceLT, Nat.reduceLeDiff, Nat.reduceBEq, Nat.reduceMul, Nat.reduceSub, Int.reduceToNat, Int.reduceEq, Int.reduceLT, Int.reduceLE, Int.reduceNeg, Int.reduceAdd, Int.reduceSub, Int.reduceMul, Try.f16, kr16, kp16_10, ow16_10, ty3, ty22, ty27, ty34, hn]
  · have hc := c_Clone b c m (by omega)
    by_cases he : errI m.length base E S = 0
    · have n1 := placesQ_len base E S
      rw [plI_of he, he] at h1
      by_cases h3 : ((placesQ base E S).length : Int) = l.length
      · have hl := l_Unpack10 b5 c5 m l (plI m.length base E S) (by omega) (plI_len _ _ _ _) (by rw [plI_of he]; omega) (fun x hx => plI_bd hb hx) (plI m.length base E S) l 0 m none rfl rfl rfl
        rw [plI_of he] at hl
        simp only [cast1, List.length_append, List.length_cons, List.length_nil, Nat.zero_add, Nat.add_zero, Int.natCast_zero, Int.natCast_add, Int.zero_add, ints_1, ints_0, h3] at hl
        simp (config := { maxSteps := 1000000 }) (disch := omega) only [push_cast, ↓reduceIte, Nat.reduceEqDiff, Nat.reduceAdd, Nat.reduceLT, Nat.reduceLeDiff, Nat.reduceBEq, Nat.reduceMul, Nat.reduceSub, Int.reduceToNat, Int.reduceEq, Int.reduceLT, Int.reduceLE, Int.reduceNeg, Int.reduceAdd, Int.reduceSub, Int.reduceMul, Try.f16, kr16, kp16_10, ow16_10, ty3, ty22, ty27, ty34, hn, h1, he, hl, h3, hc, putL_len, row_put]
      · simp (config := { maxSteps := 1000000 }) (disch := omega) only [push_cast, ↓reduceIte, Nat.reduceEqDiff, Nat.reduceAdd, Nat.reduceLT, Nat.reduceLeDiff, Nat.reduceBEq, Nat.reduceMul, Nat.reduceSub, Int.reduceToNat, Int.reduceEq, Int.reduceLT, Int.reduceLE, Int.reduceNeg, Int.reduceAdd, Int.reduceSub, Int.reduceMul, Try.f16, kr16, kp16_10, ow16_10, ty3, ty22, ty27, ty34, hn, h1, he, h3]
    · simp (config := { maxSteps := 1000000 }) (disch := omega) only [push_cast, ↓reduceIte, Nat.reduceEqDiff, Nat.reduceAdd, Nat.reduceLT, Nat.reduceLeDiff, Nat.reduceBEq, Nat.reduceMul, Nat.reduceSub, Int.reduceToNat, Int.reduceEq, Int.reduceLT, Int.reduceLE, Int.reduceNeg, Int.reduceAdd, Int.reduceSub, Int.reduceMul, Try.f16, kr16, kp16_10, ow16_10, ty3, ty22, ty27, ty34, hn, h1, he]
theorem r_Places (hb : base ≤ 9223372036854775807) : CALL 13 [Dsc base b1 c1 E b2 c2 S] = some (.tup [.sl 0 0 (placesQ base E S).length 1 none, I (errD base E S)], [ints (placesQ base E S)]) := by
  have h1 := r_Valid base b1 b2 c1 c2 E S hb
  unfold placesQ errD
  refine lim_run (fn := Try.f13) fn13 rfl body13 (Nat.le_of_ble_eq_true rfl) ok13 ?_
  by_cases d1 : okD base E S
  · have p1 := r_places base b1 b2 c1 c2 E S d1.1 d1.2.1 d1.2.2.1
    simp (config := { maxSteps := 1000000 }) (disch := omega) only [push_cast, ↓reduceIte, Nat.reduceEqDiff, Nat.reduceAdd, Nat.reduceLT, Nat.reduceLeDiff, Nat.reduceBEq, Nat.reduceMul, Nat.reduceSub, Int.reduceToNat, Int.reduceEq, Int.reduceLT, Int.reduceLE, Int.reduceNeg, Int.reduceAdd, Int.reduceSub, Int.reduceMul, Try.f13, kr13, ty3, ty22, ty27, ty34, h1, d1, p1]
  · simp (config := { maxSteps := 1000000 }) (disch := omega) only [push_cast, ↓reduceIte, Nat.reduceEqDiff, Nat.reduceAdd, Nat.reduceLT, Nat.reduceLeDiff, Nat.reduceBEq, Nat.reduceMul, Nat.reduceSub, Int.reduceToNat, Int.reduceEq, Int.reduceLT, Int.reduceLE, Int.reduceNeg, Int.reduceAdd, Int.reduceSub, Int.reduceMul, Try.f13, kr13, ty3, ty22, ty27, ty34, h1, d1]
theorem r_Size (hb : base ≤ 9223372036854775807) : CALL 39 [Dsc base b1 c1 E b2 c2 S] = some (.tup [I (sizeD base E S), I (errD base E S)], []) := by
  have h1 := r_Valid base b1 b2 c1 c2 E S hb
  unfold sizeD errD
  refine lim_run (fn := Try.f39) fn39 rfl body39 (Nat.le_of_ble_eq_true rfl) ok39 ?_
  by_cases d1 : okD base E S
  · have p1 := r_size b1 c1 E
    rw [size_some ⟨d1.1, d1.2.1⟩] at p1
    simp (config := { maxSteps := 1000000 }) (disch := omega) only [push_cast, ↓reduceIte, Nat.reduceEqDiff, Nat.reduceAdd, Nat.reduceLT, Nat.reduceLeDiff, Nat.reduceBEq, Nat.reduceMul, Nat.reduceSub, Int.reduceToNat, Int.reduceEq, Int.reduceLT, Int.reduceLE, Int.reduceNeg, Int.reduceAdd, Int.reduceSub, Int.reduceMul, Try.f39, kr39, ty3, ty22, ty27, ty34, h1, d1, p1]
  · simp (config := { maxSteps := 1000000 }) (disch := omega) only [push_cast, ↓reduceIte, Nat.reduceEqDiff, Nat.reduceAdd, Nat.reduceLT, Nat.reduceLeDiff, Nat.reduceBEq, Nat.reduceMul, Nat.reduceSub, Int.reduceToNat, Int.reduceEq, Int.reduceLT, Int.reduceLE, Int.reduceNeg, Int.reduceAdd, Int.reduceSub, Int.reduceMul, Try.f39, kr39, ty3, ty22, ty27, ty34, h1, d1]
theorem r_Small : CALL 37 [SL b c m.length (ints m)] = some (B (decide ((m.length : Int) ≤ 4000)), []) := by
  refine lim_run (fn := Try.f37) fn37 rfl body37 (Nat.le_of_ble_eq_true rfl) ok37 ?_
  simp (config := { maxSteps := 1000000 }) (disch := omega) only [push_cast, ↓reduceIte, Nat.reduceEqDiff, Nat.reduceAdd, Nat.reduceLT, Nat.reduceLeDiff, Nat.reduceBEq, Nat.reduceMul, Nat.reduceSub, Int.reduceToNat, Int.reduceEq, Int.reduceLT, Int.reduceLE, Int.reduceNeg, Int.reduceAdd, Int.reduceSub, Int.reduceMul, Try.f37, kr37, ty3, ty4, ty22, tb4]
theorem rl_inside5 (L : List Int) (hm : (m.length : Int) ≤ 16000) (hL : L.length ≤ 4000) : ∀ (r : List Int) (i : Nat), L.drop i = r →
    lp E0 pr0 38 5 ⟨[(0, SL b c m.length (ints m)), (5, .sl 0 0 L.length 1 none), (7, I i)], [(0, .arr (ints L) 0 1)], 1⟩ =
      if (r.any fun x => decide ((m.length : Int) ≤ x)) = true then some (.ret, ⟨[(4, I 92)], [], 0⟩) else some (.exit 0, ⟨[], [], 0⟩) := by
  intro r
  induction r with
  | nil =>
    intro i h1
    have h5 := drop_nil h1
    have h6 : ¬ (i : Int) < L.length := by omega
    rw [lp_eq lp38_5]
    simp (config := { maxSteps := 1000000 }) (disch := omega) only [push_cast, ↓reduceIte, Nat.reduceEqDiff, Nat.reduceAdd, Nat.reduceLT, Nat.reduceLeDiff, Nat.reduceBEq, Nat.reduceMul, Nat.reduceSub, Int.reduceToNat, Int.reduceEq, Int.reduceLT, Int.reduceLE, Int.reduceNeg, Int.reduceAdd, Int.reduceSub, Int.reduceMul, Try.f38, kr38, kp38_5, ow38_5, ty3, ty22, ty27, ty34, h6, List.any_nil]
  | cons x r ih =>
    intro i h1
    obtain ⟨g1, g2, g3⟩ := drop_cons h1
    have g8 : (i : Int) < L.length := by omega
    have ih' := ih (i + 1) g3
    simp only [cast1, List.length_append, List.length_cons, List.length_nil, Nat.zero_add, Nat.add_zero, Int.natCast_zero, Int.natCast_add, Int.zero_add, ints_1, ints_0, ] at ih'
    rw [lp_eq lp38_5]
    by_cases hx : (m.length : Int) ≤ x
    · simp (config := { maxSteps := 1000000 }) (disch := omega) only [push_cast, ↓reduceIte, Nat.reduceEqDiff, Nat.reduceAdd, Nat.reduceLT, Nat.reduceLeDiff, Nat.reduceBEq, Nat.reduceMul, Nat.reduceSub, Int.reduceToNat, Int.reduceEq, Int.reduceLT, Int.reduceLE, Int.reduceNeg, Int.reduceAdd, Int.reduceSub, Int.reduceMul, Try.f38, kr38, kp38_5, ow38_5, ty3, ty22, ty27, ty34, g1, g8, getD_of g2, hx, List.any_cons]
    · simp (config := { maxSteps := 1000000 }) (disch := omega) only [push_cast, ↓reduceIte, Nat.reduceEqDiff, Nat.reduceAdd, Nat.reduceLT, Nat.reduceLeDiff, Nat.reduceBEq, Nat.reduceMul, Nat.reduceSub, Int.reduceToNat, Int.reduceEq, Int.reduceLT, Int.reduceLE, Int.reduceNeg, Int.reduceAdd, Int.reduceSub, Int.reduceMul, Try.f38, kr38, kp38_5, ow38_5, ty3, ty22, ty27, ty34, g1, g8, getD_of g2, hx, List.any_cons, ih']
theorem r_inside (hb : base ≤ 9223372036854775807) (hm : (m.length : Int) ≤ 16000) :
    CALL 38 [SL b c m.length (ints m), Dsc base b1 c1 E b2 c2 S] = some (I (errI m.length base E S), []) := by
  have h1 := r_Places base b1 b2 c1 c2 E S hb
  have n1 := placesQ_len base E S
  have hl := rl_inside5 b c m (placesQ base E S) hm n1 (placesQ base E S) 0 rfl
  change _ = if outQ m.length base E S = true then _ else _ at hl
  simp only [cast1, List.length_append, List.length_cons, List.length_nil, Nat.zero_add, Nat.add_zero, Int.natCast_zero, Int.natCast_add, Int.zero_add, ints_1, ints_0, ] at hl
  have h0 : ¬ 16000 < (m.length : Int) := by omega
  unfold errI
  unfold errD at h1
  refine lim_run (fn := Try.f38) fn38 rfl body38 (Nat.le_of_ble_eq_true rfl) ok38 ?_
  by_cases d1 : okD base E S
  · rw [if_pos d1] at h1
    simp (config := { maxSteps := 1000000 }) (disch := omega) only [push_cast, ↓reduceIte, Nat.reduceEqDiff, Nat.reduceAdd, Nat.reduceLT, Nat.reduceLeDiff, Nat.reduceBEq, Nat.reduceMul, Nat.reduceSub, Int.reduceToNat, Int.reduceEq, Int.reduceLT, Int.reduceLE, Int.reduceNeg, Int.reduceAdd, Int.reduceSub, Int.reduceMul, Try.f38, kr38, kp38_5, ow38_5, ty3, ty22, ty27, ty34, h0, h1, d1, hl]
    cases outQ m.length base E S <;> rfl
  · rw [if_neg d1] at h1
    simp (config := { maxSteps := 1000000 }) (disch := omega) only [push_cast, ↓reduceIte, Nat.reduceEqDiff, Nat.reduceAdd, Nat.reduceLT, Nat.reduceLeDiff, Nat.reduceBEq, Nat.reduceMul, Nat.reduceSub, Int.reduceToNat, Int.reduceEq, Int.reduceLT, Int.reduceLE, Int.reduceNeg, Int.reduceAdd, Int.reduceSub, Int.reduceMul, Try.f38, kr38, kp38_5, ow38_5, ty3, ty22, ty27, ty34, h1, d1]
theorem rl_Pack9 (L : List Int) (hm : m.length ≤ 4000) (hL : L.length ≤ 4000) (hb : ∀ x ∈ L, 0 ≤ x ∧ x < m.length) : ∀ (r : List Int) (i : Nat) (out : List Int), L.drop i = r → out.length = i →
    lp E0 pr0 15 9 ⟨[(0, SL b c m.length (ints m)), (7, .sl 0 0 L.length 1 none), (9, .sl 1 0 out.length 1 none), (10, I i)], [(0, .arr (ints L) 0 1), (1, .arr (ints out) 1 1)], 2⟩ =
      some (.exit 0, ⟨[(9, .sl 0 0 (out ++ pickM m r).length 1 none)], [(0, .arr (ints (out ++ pickM m r)) 0 1)], 1⟩) := by
  intro r
  induction r with
  | nil =>
    intro i out h1 h2
    have h5 := drop_nil h1
    have h6 : ¬ (i : Int) < L.length := by omega
    rw [lp_eq lp15_9]
    simp (config := { maxSteps := 1000000 }) (disch := omega) only [push_cast, ↓reduceIte, Nat.reduceEqDiff, Nat.reduceAdd, Nat.reduceLT, Nat.reduceLeDiff, Nat.reduceBEq, Nat.reduceMul, Nat.reduceSub, Int.reduceToNat, Int.reduceEq, Int.reduceLT, Int.reduceLE, Int.reduceNeg, Int.reduceAdd, Int.reduceSub, Int.reduceMul, Try.f15, kr15, kp15_9, ow15_9, ty3, ty22, ty27, ty34, h6, pickM, List.map_nil, List.append_nil]
  | cons x r ih =>
    intro i out h1 h2
    obtain ⟨g1, g2, g3⟩ := drop_cons h1
    have g8 : (i : Int) < L.length := by omega
    obtain ⟨e0, e1⟩ := hb x (List.mem_of_getElem? g2)
    obtain ⟨k, rfl⟩ : ∃ k : Nat, x = k := ⟨x.toNat, by omega⟩
    have g9 : k < m.length := by omega
    have hk : m[k]? = some (m.getD k 0) := by simp [g9]
    have e : out ++ [m.getD k 0] ++ pickM m r = out ++ pickM m ((k : Int) :: r) := by simp [pickM]
    have ih' := ih (i + 1) (out ++ [m.getD k 0]) g3 (by simp [h2])
    rw [e] at ih'
    simp only [cast1, List.length_append, List.length_cons, List.length_nil, Nat.zero_add, Nat.add_zero, Int.natCast_zero, Int.natCast_add, Int.zero_add, ints_1, ints_0, ] at ih'
    rw [lp_eq lp15_9]
    simp (config := { maxSteps := 1000000 }) (disch := omega) only [push_cast, ↓reduceIte, Nat.reduceEqDiff, Nat.reduceAdd, Nat.reduceLT, Nat.reduceLeDiff, Nat.reduceBEq, Nat.reduceMul, Nat.reduceSub, Int.reduceToNat, Int.reduceEq, Int.reduceLT, Int.reduceLE, Int.reduceNeg, Int.reduceAdd, Int.reduceSub, Int.reduceMul, Try.f15, kr15, kp15_9, ow15_9, ty3, ty22, ty27, ty34, g1, g8, g9, e1, getD_of g2, getD_of hk, ih']
theorem r_Pack (hb : base ≤ 9223372036854775807) (hm : (m.length : Int) ≤ 9223372036854775806) :
    CALL 15 [SL b c m.length (ints m), Dsc base b1 c1 E b2 c2 S] = some (.tup [.sl 0 0 (packQ m base E S).length 1 none, I (errP m base E S)], [ints (packQ m base E S)]) := by
  have h1 := r_Places base b1 b2 c1 c2 E S hb
  have h2 := r_Small b c m
  unfold packQ errP
  refine lim_run (fn := Try.f15) fn15 rfl body15 (Nat.le_of_ble_eq_true rfl) ok15 ?_
  by_cases hn : 4000 < (m.length : Int)
  · rw [decide_eq_false (p := (m.length : Int) ≤ 4000) (by omega)] at h2
    simp (config := { maxSteps := 1000000 }) (disch := omega) only [push_cast, ↓reduceIte, Nat.reduceEqDiff, Nat.reduceAdd, Nat.reduceLT, Nat.reduceLeDiff, Nat.reduceBEq, Nat.reduceMul, Nat.reduceSub, Int.reduceToNat, Int.reduceEq, Int.reduceLT, Int.reduceLE, Int.reduceNeg, Int.reduceAdd, Int.reduceSub, Int.reduceMul, Try.f15, kr15, kp15_9, ow15_9, ty3, ty22, ty27, ty34, hn, h2]
  · rw [decide_eq_true (p := (m.length : Int) ≤ 4000) (by omega)] at h2
    have h3 := r_inside base b b1 b2 c c1 c2 m E S hb (by omega)
    by_cases he : errI m.length base E S = 0
    · have hl := rl_Pack9 b c m (plI m.length base E S) (by omega) (plI_len _ _ _ _) (fun x hx => plI_bd hb hx) (plI m.length base E S) 0 [] rfl rfl
      rw [he] at h3
      rw [plI_of he, List.nil_append] at hl
      have n1 := placesQ_len base E S
      simp only [cast1, List.length_append, List.length_cons, List.length_nil, Nat.zero_add, Nat.add_zero, Int.natCast_zero, Int.natCast_add, Int.zero_add, ints_1, ints_0, ] at hl
      simp (config := { maxSteps := 1000000 }) (disch := omega) only [push_cast, ↓reduceIte, Nat.reduceEqDiff, Nat.reduceAdd, Nat.reduceLT, Nat.reduceLeDiff, Nat.reduceBEq, Nat.reduceMul, Nat.reduceSub, Int.reduceToNat, Int.reduceEq, Int.reduceLT, Int.reduceLE, Int.reduceNeg, Int.reduceAdd, Int.reduceSub, Int.reduceMul, Try.f15, kr15, kp15_9, ow15_9, ty3, ty22, ty27, ty34, hn, h1, h2, h3, he, hl]
    · simp (config := { maxSteps := 1000000 }) (disch := omega) only [push_cast, ↓reduceIte, Nat.reduceEqDiff, Nat.reduceAdd, Nat.reduceLT, Nat.reduceLeDiff, Nat.reduceBEq, Nat.reduceMul, Nat.reduceSub, Int.reduceToNat, Int.reduceEq, Int.reduceLT, Int.reduceLE, Int.reduceNeg, Int.reduceAdd, Int.reduceSub, Int.reduceMul, Try.f15, kr15, kp15_9, ow15_9, ty3, ty22, ty27, ty34, hn, h2, h3, he]
theorem rl_Unpack11 (L : List Int) (hm : m.length ≤ 4000) (hL : L.length ≤ 4000) (hl : L.length = l.length) (hb : ∀ x ∈ L, 0 ≤ x ∧ x < m.length) : ∀ (r q : List Int) (i : Nat) (out : List Int) (cp : Option Nat), L.drop i = r → l.drop i = q → out.length = m.length →
    lp E0 pr0 17 11 ⟨[(2, SL b5 c5 l.length (ints l)), (9, .sl 0 0 L.length 1 none), (11, .sl 1 0 m.length 1 cp), (12, I i)], [(0, .arr (ints L) 0 1), (1, .arr (ints out) 1 1)], 2⟩ =
      some (.exit 0, ⟨[(11, .sl 0 0 m.length 1 cp)], [(0, .arr (ints (putL r q out)) 0 1)], 1⟩) := by
  intro r
  induction r with
  | nil =>
    intro q i out cp h1 h2 h3
    have h5 := drop_nil h1
    have h6 : ¬ (i : Int) < L.length := by omega
    rw [lp_eq lp17_11]
    simp (config := { maxSteps := 1000000 }) (disch := omega) only [push_cast, ↓reduceIte, Nat.reduceEqDiff, Nat.reduceAdd, Nat.reduceLT, Nat.reduceLeDiff, Nat.reduceBEq, Nat.reduceMul, Nat.reduceSub, Int.reduceToNat, Int.reduceEq, Int.reduceLT, Int.reduceLE, Int.reduceNeg, Int.reduceAdd, Int.reduceSub, Int.reduceMul, Try.f17, kr17, kp17_11, ow17_11, ty3, ty22, ty27, ty34, h6, putL]
  | cons x r ih =>
    intro q i out cp h1 h2 h3
    obtain ⟨g1, g2, g3⟩ := drop_cons h1
    obtain ⟨y, q, rfl⟩ : ∃ s q', q = s :: q' := by
      cases q with
      | nil => have := drop_nil h2; omega
      | cons s q => exact ⟨s, q, rfl⟩
    obtain ⟨g4, g5, g6⟩ := drop_cons h2
    have g7 : (i : Int) < l.length := by omega
    have g8 : (i : Int) < L.length := by omega
    obtain ⟨e0, e1⟩ := hb x (List.mem_of_getElem? g2)
    obtain ⟨k, rfl⟩ : ∃ k : Nat, x = k := ⟨x.toNat, by omega⟩
    have g9 : k < out.length := by omega
    have ih' := ih q (i + 1) (out.set k y) cp g3 g6 (by simp [h3])
    simp only [cast1, List.length_append, List.length_cons, List.length_nil, Nat.zero_add, Nat.add_zero, Int.natCast_zero, Int.natCast_add, Int.zero_add, ints_1, ints_0, ] at ih'
    rw [lp_eq lp17_11]
    simp (config := { maxSteps := 1000000 }) (disch := omega) only [push_cast, ↓reduceIte, Nat.reduceEqDiff, Nat.reduceAdd, Nat.reduceLT, Nat.reduceLeDiff, Nat.reduceBEq, Nat.reduceMul, Nat.reduceSub, Int.reduceToNat, Int.reduceEq, Int.reduceLT, Int.reduceLE, Int.reduceNeg, Int.reduceAdd, Int.reduceSub, Int.reduceMul, Try.f17, kr17, kp17_11, ow17_11, ty3, ty22, ty27, ty34, g1, g4, g7, g8, g9, h3, e1, getD_of g2, getD_of g5, splice_ints y g9, ih', putL, ne_eq]
theorem r_Unpack (hb : base ≤ 9223372036854775807) (hm : (m.length : Int) ≤ 9223372036854775806) (hll : (l.length : Int) ≤ 9223372036854775806) :
    CALL 17 [SL b c m.length (ints m), Dsc base b1 c1 E b2 c2 S, SL b5 c5 l.length (ints l)] = some (.tup [.sl 0 0 (unpQ m base E S l).length 1 none, I (errU m base E S l)], [ints (unpQ m base E S l)]) := by
  have h1 := r_Places base b1 b2 c1 c2 E S hb
  have h2 := r_Small b c m
  unfold unpQ errU errP
  refine lim_run (fn := Try.f17) fn17 rfl body17 (Nat.le_of_ble_eq_true rfl) ok17 ?_
  by_cases hn : 4000 < (m.length : Int)
  · rw [decide_eq_false (p := (m.length : Int) ≤ 4000) (by omega)] at h2
    simp (config := { maxSteps := 1000000 }) (disch := omega) only [push_cast, ↓reduceIte, Nat.reduceEqDiff, Nat.reduceAdd, Nat.reduceLT, Nat.reduceLeDiff, Nat.reduceBEq, Nat.reduceMul, Nat.reduceSub, Int.reduceToNat, Int.reduceEq, Int.reduceLT, Int.reduceLE, Int.reduceNeg, Int.reduceAdd, Int.reduceSub, Int.reduceMul, Try.f17, kr17, kp17_11, ow17_11, ty3, ty22, ty27, ty34, hn, h2]
  · rw [decide_eq_true (p := (m.length : Int) ≤ 4000) (by omega)] at h2
    have h3 := r_inside base b b1 b2 c c1 c2 m E S hb (by omega)
    by_cases he : errI m.length base E S = 0
    · have n1 := placesQ_len base E S
      rw [he] at h3
      by_cases h4 : ((placesQ base E S).length : Int) = l.length
      · have hl := rl_Unpack11 b5 c5 m l (plI m.length base E S) (by omega) (plI_len _ _ _ _) (by rw [plI_of he]; omega) (fun x hx => plI_bd hb hx) (plI m.length base E S) l 0 m none rfl rfl rfl
        rw [plI_of he] at hl
        simp only [cast1, List.length_append, List.length_cons, List.length_nil, Nat.zero_add, Nat.add_zero, Int.natCast_zero, Int.natCast_add, Int.zero_add, ints_1, ints_0, h4] at hl
        simp (config := { maxSteps := 1000000 }) (disch := omega) only [push_cast, ↓reduceIte, Nat.reduceEqDiff, Nat.reduceAdd, Nat.reduceLT, Nat.reduceLeDiff, Nat.reduceBEq, Nat.reduceMul, Nat.reduceSub, Int.reduceToNat, Int.reduceEq, Int.reduceLT, Int.reduceLE, Int.reduceNeg, Int.reduceAdd, Int.reduceSub, Int.reduceMul, Try.f17, kr17, kp17_11, ow17_11, ty3, ty22, ty27, ty34, hn, h1, h2, h3, he, hl, h4, putL_len, row_put]
      · simp (config := { maxSteps := 1000000 }) (disch := omega) only [push_cast, ↓reduceIte, Nat.reduceEqDiff, Nat.reduceAdd, Nat.reduceLT, Nat.reduceLeDiff, Nat.reduceBEq, Nat.reduceMul, Nat.reduceSub, Int.reduceToNat, Int.reduceEq, Int.reduceLT, Int.reduceLE, Int.reduceNeg, Int.reduceAdd, Int.reduceSub, Int.reduceMul, Try.f17, kr17, kp17_11, ow17_11, ty3, ty22, ty27, ty34, hn, h1, h2, h3, he, h4]
    · simp (config := { maxSteps := 1000000 }) (disch := omega) only [push_cast, ↓reduceIte, Nat.reduceEqDiff, Nat.reduceAdd, Nat.reduceLT, Nat.reduceLeDiff, Nat.reduceBEq, Nat.reduceMul, Nat.reduceSub, Int.reduceToNat, Int.reduceEq, Int.reduceLT, Int.reduceLE, Int.reduceNeg, Int.reduceAdd, Int.reduceSub, Int.reduceMul, Try.f17, kr17, kp17_11, ow17_11, ty3, ty22, ty27, ty34, hn, h2, h3, he]
end
end Go.Proofs.Ytochkebkfoophaa.Tev
