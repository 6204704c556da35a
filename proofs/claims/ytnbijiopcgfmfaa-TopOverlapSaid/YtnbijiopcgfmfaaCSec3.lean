/- section.Places, Size, Share. -/
import Derived.Test.YtnbijiopcgfmfaaCSec2
namespace Go.Proofs.Ytnbijiopcgfmfaa.Tev
open Go Go.RowKit Go.Proofs Go.Proofs.Ytnbijiopcgfmfaa.Q
set_option linter.unusedSectionVars false
set_option maxRecDepth 100000
set_option maxHeartbeats 0
set_option linter.unusedSimpArgs false
set_option linter.unusedVariables false
section
variable (base : Int) (b1 b2 : Bool) (c1 c2 : Option Nat) (E S : List Int)
theorem l_Places7 (hE : ∀ e ∈ E, 1 ≤ e ∧ e ≤ 4000) (hl : E.length ≤ 3) (hS : S.length = E.length) : ∀ (r q : List Int) (i : Nat) (out : List Int) (cp : Option Nat), E.drop i = r → S.drop i = q → (out.length : Int) * pr r ≤ 4000 → (∀ x ∈ out, -9223372036854775808 ≤ x ∧ x ≤ 9223372036854775807) →
    ∃ cp', lp E0 pr0 22 7 ⟨[(1, .pt 0 0), (4, .sl 1 0 out.length 1 cp), (22, SL b1 c1 E.length (ints E)), (23, I E.length), (24, I i)],
        [(0, .box [I base, SL b1 c1 E.length (ints E), SL b2 c2 S.length (ints S)]), (1, .arr (ints out) 1 1)], 2⟩ =
      some (.exit 0, ⟨[(4, .sl 0 0 (plcW r q out).length 1 cp')], [(0, .arr (ints (plcW r q out)) 0 1)], 1⟩) := by
  intro r
  induction r with
  | nil =>
    intro q i out cp h1 h2 h3 h4
    have h5 := drop_nil h1
    have h6 : ¬ (i : Int) < E.length := by omega
    refine ⟨cp, ?_⟩
    rw [lp_eq lp22_7]
    simp (config := { maxSteps := 1000000 }) (disch := omega) only [push_cast, ↓reduceIte, Nat.reduceEqDiff, Nat.reduceAdd, Nat.reduceLT, Nat.reduceLeDiff, Nat.reduceBEq, Nat.reduceMul, Nat.reduceSub, Int.reduceToNat, Int.reduceEq, Int.reduceLT, Int.reduceLE, Int.reduceNeg, Int.reduceAdd, Int.reduceSub, Int.reduceMul, Try.f22, kr22, kp22_14, kp22_11, kp22_7, ow22_14, ow22_11, ow22_7, ty3, ty25, ty28, ty37, h6]
    simp [plcW]
  | cons n r ih =>
    intro q i out cp h1 h2 h3 h4
    obtain ⟨g1, g2, g3⟩ := drop_cons h1
    obtain ⟨s, q, rfl⟩ : ∃ s q', q = s :: q' := by
      cases q with
      | nil => have := drop_nil h2; omega
      | cons s q => exact ⟨s, q, rfl⟩
    obtain ⟨g4, g5, g6⟩ := drop_cons h2
    have g8 : (i : Int) < E.length := by omega
    obtain ⟨e0, e1⟩ := hE n (List.mem_of_getElem? g2)
    have hp : 1 ≤ pr r := pr_pos fun e he => (hE e (List.mem_of_mem_drop (g3 ▸ he))).1
    rw [pr, ← Int.mul_assoc] at h3
    have h5 : (out.length : Int) * n ≤ 4000 := mul_one_le (Int.mul_nonneg (by omega) (by omega)) hp h3
    have h6 : (out.length : Int) ≤ 4000 := mul_one_le (by omega) e0 h5
    have en : (n.toNat : Int) = n := by omega
    have h7 : out.length + (n.toNat - 1) * out.length ≤ 4000 := by
      have : ((n.toNat * out.length : Nat) : Int) ≤ 4000 := by push_cast; rw [en, Int.mul_comm]; exact h5
      obtain ⟨m, hm⟩ : ∃ m, n.toNat = m + 1 := ⟨n.toNat - 1, by omega⟩
      rw [hm] at this ⊢
      rw [Nat.succ_mul] at this
      simp only [Nat.add_sub_cancel]
      omega
    obtain ⟨cp1, hl⟩ := l_Places11 base b1 b2 c1 c2 E S n s e1 i g5 out (by omega) (n.toNat - 1) 1 out cp cp 1 (by omega) h7 (by omega)
    have hd : out ++ dimW out s (n.toNat - 1) ((1 : Nat) : Int) = dimW out s n.toNat 0 := dimW_all out s n.toNat (by omega) h4
    rw [hd] at hl
    obtain ⟨cp', ih'⟩ := ih q (i + 1) (dimW out s n.toNat 0) cp1 g3 g6 (by rw [dimW_length]; push_cast; rw [en, Int.mul_comm n]; exact h3) (fun x hx => dimW_in hx)
    simp only [cast1, List.length_append, List.length_cons, List.length_nil, Nat.zero_add, Nat.add_zero, Int.natCast_zero, Int.natCast_add, Int.zero_add, ints_1, ints_0, ] at ih' hl
    refine ⟨cp', ?_⟩
    rw [lp_eq lp22_7]
    simp (config := { maxSteps := 1000000 }) (disch := omega) only [push_cast, ↓reduceIte, Nat.reduceEqDiff, Nat.reduceAdd, Nat.reduceLT, Nat.reduceLeDiff, Nat.reduceBEq, Nat.reduceMul, Nat.reduceSub, Int.reduceToNat, Int.reduceEq, Int.reduceLT, Int.reduceLE, Int.reduceNeg, Int.reduceAdd, Int.reduceSub, Int.reduceMul, Try.f22, kr22, kp22_14, kp22_11, kp22_7, ow22_14, ow22_11, ow22_7, ty3, ty25, ty28, ty37, g1, g8, getD_of g2, hl, ih']
    rfl
theorem c_Places (hE : (E.length : Int) ≤ 9223372036854775806) (hS : (S.length : Int) ≤ 9223372036854775806) :
    CALL 22 [Dsc base b1 c1 E b2 c2 S] = some (.tup [.sl 0 0 (placesQ base E S).length 1 none, I (errD base E S)], [ints (placesQ base E S)]) := by
  have hv := c_Valid base b1 b2 c1 c2 E S hE hS
  unfold placesQ errD
  refine lim_run (fn := Try.f22) fn22 rfl body22 (Nat.le_of_ble_eq_true rfl) ok22 ?_
  by_cases hd : okD base E S
  · obtain ⟨x1, x2, x3, x4, x5, x6⟩ := id hd
    have hs := size_some ⟨x1, x2⟩
    unfold plcR
    by_cases h0 : pr E = 0
    · simp (config := { maxSteps := 1000000 }) (disch := omega) only [push_cast, ↓reduceIte, Nat.reduceEqDiff, Nat.reduceAdd, Nat.reduceLT, Nat.reduceLeDiff, Nat.reduceBEq, Nat.reduceMul, Nat.reduceSub, Int.reduceToNat, Int.reduceEq, Int.reduceLT, Int.reduceLE, Int.reduceNeg, Int.reduceAdd, Int.reduceSub, Int.reduceMul, Try.f22, kr22, kp22_14, kp22_11, kp22_7, ow22_14, ow22_11, ow22_7, ty3, ty25, ty28, ty37, hv, hd, c_size, hs, h0]
    · have hp := exts_pos x1 h0
      obtain ⟨cp', hl⟩ := l_Places7 base b1 b2 c1 c2 E S (fun e he => ⟨hp e he, (x1.2 e he).2⟩) x1.1 x3 E S 0 [base] (some 1) rfl rfl (by simp; omega) (by intro x hx; simp at hx; subst hx; rcases x6 with h | h; exact absurd h h0; omega)
      simp only [cast1, List.length_append, List.length_cons, List.length_nil, Nat.zero_add, Nat.add_zero, Int.natCast_zero, Int.natCast_add, Int.zero_add, ints_1, ints_0, ] at hl
      simp (config := { maxSteps := 1000000 }) (disch := omega) only [push_cast, ↓reduceIte, Nat.reduceEqDiff, Nat.reduceAdd, Nat.reduceLT, Nat.reduceLeDiff, Nat.reduceBEq, Nat.reduceMul, Nat.reduceSub, Int.reduceToNat, Int.reduceEq, Int.reduceLT, Int.reduceLE, Int.reduceNeg, Int.reduceAdd, Int.reduceSub, Int.reduceMul, Try.f22, kr22, kp22_14, kp22_11, kp22_7, ow22_14, ow22_11, ow22_7, ty3, ty25, ty28, ty37, hv, hd, c_size, hs, h0, hl]
  · simp (config := { maxSteps := 1000000 }) (disch := omega) only [push_cast, ↓reduceIte, Nat.reduceEqDiff, Nat.reduceAdd, Nat.reduceLT, Nat.reduceLeDiff, Nat.reduceBEq, Nat.reduceMul, Nat.reduceSub, Int.reduceToNat, Int.reduceEq, Int.reduceLT, Int.reduceLE, Int.reduceNeg, Int.reduceAdd, Int.reduceSub, Int.reduceMul, Try.f22, kr22, kp22_14, kp22_11, kp22_7, ow22_14, ow22_11, ow22_7, ty3, ty25, ty28, ty37, hv, hd]
theorem c_Size (hE : (E.length : Int) ≤ 9223372036854775806) (hS : (S.length : Int) ≤ 9223372036854775806) :
    CALL 61 [Dsc base b1 c1 E b2 c2 S] = some (.tup [I (sizeD base E S), I (errD base E S)], []) := by
  have hv := c_Valid base b1 b2 c1 c2 E S hE hS
  unfold sizeD errD
  refine lim_run (fn := Try.f61) fn61 rfl body61 (Nat.le_of_ble_eq_true rfl) ok61 ?_
  by_cases hd : okD base E S
  · have hs := size_some ⟨hd.1, hd.2.1⟩
    simp (config := { maxSteps := 1000000 }) (disch := omega) only [push_cast, ↓reduceIte, Nat.reduceEqDiff, Nat.reduceAdd, Nat.reduceLT, Nat.reduceLeDiff, Nat.reduceBEq, Nat.reduceMul, Nat.reduceSub, Int.reduceToNat, Int.reduceEq, Int.reduceLT, Int.reduceLE, Int.reduceNeg, Int.reduceAdd, Int.reduceSub, Int.reduceMul, Try.f61, kr61, ty3, ty25, ty28, ty37, hv, hd, c_size, hs]
  · simp (config := { maxSteps := 1000000 }) (disch := omega) only [push_cast, ↓reduceIte, Nat.reduceEqDiff, Nat.reduceAdd, Nat.reduceLT, Nat.reduceLeDiff, Nat.reduceBEq, Nat.reduceMul, Nat.reduceSub, Int.reduceToNat, Int.reduceEq, Int.reduceLT, Int.reduceLE, Int.reduceNeg, Int.reduceAdd, Int.reduceSub, Int.reduceMul, Try.f61, kr61, ty3, ty25, ty28, ty37, hv, hd]
end
theorem c_Share1 (x : Int) (es : List (Value × C × Nat)) (h : okB es) : CALL 54 [I x, .rb [.ms es] 0] = some (B (hasB es x), []) := by
  refine lim_run (fn := Try.f54) fn54 rfl body54 (Nat.le_of_ble_eq_true rfl) ok54 ?_
  simp (config := { maxSteps := 1000000 }) (disch := omega) only [push_cast, ↓reduceIte, Nat.reduceEqDiff, Nat.reduceAdd, Nat.reduceLT, Nat.reduceLeDiff, Nat.reduceBEq, Nat.reduceMul, Nat.reduceSub, Int.reduceToNat, Int.reduceEq, Int.reduceLT, Int.reduceLE, Int.reduceNeg, Int.reduceAdd, Int.reduceSub, Int.reduceMul, Try.f54, kr54, ty3, ty4, ty103, tb4, keyB h, valB h]
theorem l_Share7 (l m : List Int) (hl : l.length ≤ 4000) : ∀ (r : List Int) (i : Nat) (s : List (Value × C × Nat) × Nat), l.drop i = r → okB s.1 →
    lp E0 pr0 23 7 ⟨[(8, .sl 0 0 m.length 1 none), (10, .pt 2 0), (30, .sl 3 0 l.length 1 none), (31, I l.length), (32, I i)], [(0, .arr (ints m) 0 1), (1, .mp s.1 s.2), (2, .box [.mp 1]), (3, .arr (ints l) 3 1)], 4⟩ =
      some (.exit 0, ⟨[(8, .sl 0 0 m.length 1 none), (10, .pt 2 0)], [(0, .arr (ints m) 0 1), (1, .mp (insAll s r).1 (insAll s r).2), (2, .box [.mp 1])], 3⟩) := by
  intro r
  induction r with
  | nil =>
    intro i s h1 hk
    have h5 := drop_nil h1
    have h6 : ¬ (i : Int) < l.length := by omega
    rw [lp_eq lp23_7]
    simp (config := { maxSteps := 1000000 }) (disch := omega) only [push_cast, ↓reduceIte, Nat.reduceEqDiff, Nat.reduceAdd, Nat.reduceLT, Nat.reduceLeDiff, Nat.reduceBEq, Nat.reduceMul, Nat.reduceSub, Int.reduceToNat, Int.reduceEq, Int.reduceLT, Int.reduceLE, Int.reduceNeg, Int.reduceAdd, Int.reduceSub, Int.reduceMul, Try.f23, kr23, kp23_7, ow23_7, ty3, ty4, ty25, ty28, ty37, ty103, tb4, h6]
    rfl
  | cons x r ih =>
    intro i s h1 hk
    obtain ⟨g1, g2, g3⟩ := drop_cons h1
    have g8 : (i : Int) < l.length := by omega
    have ih' := ih (i + 1) (insB s x) g3 (insB_ok hk x).1
    simp only [cast1, List.length_append, List.length_cons, List.length_nil, Nat.zero_add, Nat.add_zero, Int.natCast_zero, Int.natCast_add, Int.zero_add, ints_1, ints_0, insB] at ih'
    rw [lp_eq lp23_7]
    simp (config := { maxSteps := 1000000 }) (disch := omega) only [push_cast, ↓reduceIte, Nat.reduceEqDiff, Nat.reduceAdd, Nat.reduceLT, Nat.reduceLeDiff, Nat.reduceBEq, Nat.reduceMul, Nat.reduceSub, Int.reduceToNat, Int.reduceEq, Int.reduceLT, Int.reduceLE, Int.reduceNeg, Int.reduceAdd, Int.reduceSub, Int.reduceMul, Try.f23, kr23, kp23_7, ow23_7, ty3, ty4, ty25, ty28, ty37, ty103, tb4, g1, g8, getD_of g2, keyB hk, ih']
    rfl
theorem c_Share (a : Int) (b1 b2 : Bool) (c1 c2 : Option Nat) (E S : List Int) (b : Int) (b3 b4 : Bool) (c3 c4 : Option Nat) (E' S' : List Int) (hE : (E.length : Int) ≤ 9223372036854775806) (hS : (S.length : Int) ≤ 9223372036854775806) (hE' : (E'.length : Int) ≤ 9223372036854775806) (hS' : (S'.length : Int) ≤ 9223372036854775806) :
    CALL 23 [Dsc a b1 c1 E b2 c2 S, Dsc b b3 c3 E' b4 c4 S'] = some (.tup [B (shareQ a E S b E' S'), I (errDD a E S b E' S')], []) := by
  have h1 := c_Places a b1 b2 c1 c2 E S hE hS
  have h2 := c_Places b b3 b4 c3 c4 E' S' hE' hS'
  have n1 := placesQ_len a E S
  have n2 := placesQ_len b E' S'
  have hl := l_Share7 (placesQ a E S) (placesQ b E' S') n1 (placesQ a E S) 0 ([], 0) rfl okB_nil
  obtain ⟨k1, k2⟩ := insAll_ok (placesQ a E S) (s := ([], 0)) okB_nil
  simp only [cast1, List.length_append, List.length_cons, List.length_nil, Nat.zero_add, Nat.add_zero, Int.natCast_zero, Int.natCast_add, Int.zero_add, ints_1, ints_0, ] at hl
  have hc := c_ContainsFunc 54 [.rb [.ms (insAll ([], 0) (placesQ a E S)).1] 0] _ (fun x => c_Share1 x _ k1) (shut_rb _ _)
  unfold shareQ errDD
  unfold errD at h1 h2
  refine lim_run (fn := Try.f23) fn23 rfl body23 (Nat.le_of_ble_eq_true rfl) ok23 ?_
  by_cases d1 : okD a E S
  · by_cases d2 : okD b E' S'
    · rw [if_pos d1] at h1
      rw [if_pos d2] at h2
      simp (config := { maxSteps := 1000000 }) (disch := omega) only [push_cast, ↓reduceIte, Nat.reduceEqDiff, Nat.reduceAdd, Nat.reduceLT, Nat.reduceLeDiff, Nat.reduceBEq, Nat.reduceMul, Nat.reduceSub, Int.reduceToNat, Int.reduceEq, Int.reduceLT, Int.reduceLE, Int.reduceNeg, Int.reduceAdd, Int.reduceSub, Int.reduceMul, Try.f23, kr23, kp23_7, ow23_7, ty3, ty4, ty25, ty28, ty37, ty103, tb4, h1, h2, hl, hc, d1, d2]
      have e : hasB (insAll ([], 0) (placesQ a E S)).1 = fun x => (placesQ a E S).contains x := by
        funext y; rw [k2]; simp [hasB]
      rw [e]
    · rw [if_pos d1] at h1
      rw [if_neg d2] at h2
      simp (config := { maxSteps := 1000000 }) (disch := omega) only [push_cast, ↓reduceIte, Nat.reduceEqDiff, Nat.reduceAdd, Nat.reduceLT, Nat.reduceLeDiff, Nat.reduceBEq, Nat.reduceMul, Nat.reduceSub, Int.reduceToNat, Int.reduceEq, Int.reduceLT, Int.reduceLE, Int.reduceNeg, Int.reduceAdd, Int.reduceSub, Int.reduceMul, Try.f23, kr23, kp23_7, ow23_7, ty3, ty4, ty25, ty28, ty37, ty103, tb4, h1, h2, d1, d2]
  · rw [if_neg d1] at h1
    simp (config := { maxSteps := 1000000 }) (disch := omega) only [push_cast, ↓reduceIte, Nat.reduceEqDiff, Nat.reduceAdd, Nat.reduceLT, Nat.reduceLeDiff, Nat.reduceBEq, Nat.reduceMul, Nat.reduceSub, Int.reduceToNat, Int.reduceEq, Int.reduceLT, Int.reduceLE, Int.reduceNeg, Int.reduceAdd, Int.reduceSub, Int.reduceMul, Try.f23, kr23, kp23_7, ow23_7, ty3, ty4, ty25, ty28, ty37, ty103, tb4, h1, h2, d1]
end Go.Proofs.Ytnbijiopcgfmfaa.Tev
