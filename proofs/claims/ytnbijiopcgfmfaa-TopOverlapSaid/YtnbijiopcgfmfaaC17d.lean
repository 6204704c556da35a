/- The quick tests, overlap's and the document's. -/
import Derived.Test.YtnbijiopcgfmfaaC17c
namespace Go.Proofs.Ytnbijiopcgfmfaa.Tev
open Go Go.RowKit Go.Proofs Go.Proofs.Ytnbijiopcgfmfaa.Q
set_option linter.unusedSectionVars false
set_option maxRecDepth 100000
set_option maxHeartbeats 0
set_option linter.unusedSimpArgs false
set_option linter.unusedVariables false
theorem gcd_le {m n B : Nat} (hm : m ≤ B) (hn : n ≤ B) : Nat.gcd m n ≤ B := by
  rcases Nat.eq_zero_or_pos m with h | h
  · subst h; rw [Nat.gcd_zero_left]; exact hn
  · exact Nat.le_trans (Nat.gcd_le_left n h) hm
theorem gcd_mod (a b : Int) : Nat.gcd b.natAbs (Int.tmod a b).natAbs = Nat.gcd a.natAbs b.natAbs := by
  rw [Int.natAbs_tmod, Nat.gcd_comm b.natAbs, ← Nat.gcd_rec, Nat.gcd_comm]
theorem ol_gcd1 : ∀ (n : Nat) (a b : Int), b.natAbs ≤ n → ∃ r : Int, r.natAbs = Nat.gcd a.natAbs b.natAbs ∧ lp E0 pr0 49 1 ⟨[(0, I a), (1, I b)], [], 0⟩ = some (.exit 0, ⟨[(0, I r)], [], 0⟩) := by
  intro n
  induction n with
  | zero =>
    intro a b h
    obtain rfl : b = 0 := by omega
    refine ⟨a, by simp, ?_⟩
    rw [lp_eq lp49_1]
    simp (config := { maxSteps := 1000000 }) (disch := omega) only [push_cast, ↓reduceIte, Nat.reduceEqDiff, Nat.reduceAdd, Nat.reduceLT, Nat.reduceLeDiff, Nat.reduceBEq, Nat.reduceMul, Nat.reduceSub, Int.reduceToNat, Int.reduceEq, Int.reduceLT, Int.reduceLE, Int.reduceNeg, Int.reduceAdd, Int.reduceSub, Int.reduceMul, Try.f49, kr49, kp49_1, ow49_1, ty3, ne_eq]
  | succ n ih =>
    intro a b h
    by_cases h0 : b = 0
    · subst h0
      refine ⟨a, by simp, ?_⟩
      rw [lp_eq lp49_1]
      simp (config := { maxSteps := 1000000 }) (disch := omega) only [push_cast, ↓reduceIte, Nat.reduceEqDiff, Nat.reduceAdd, Nat.reduceLT, Nat.reduceLeDiff, Nat.reduceBEq, Nat.reduceMul, Nat.reduceSub, Int.reduceToNat, Int.reduceEq, Int.reduceLT, Int.reduceLE, Int.reduceNeg, Int.reduceAdd, Int.reduceSub, Int.reduceMul, Try.f49, kr49, kp49_1, ow49_1, ty3, ne_eq]
    · have hm : (Int.tmod a b).natAbs < b.natAbs := by rw [Int.natAbs_tmod]; exact Nat.mod_lt _ (by omega)
      obtain ⟨r, h1, h2⟩ := ih b (Int.tmod a b) (by omega)
      refine ⟨r, by rw [h1, gcd_mod], ?_⟩
      rw [lp_eq lp49_1]
      simp (config := { maxSteps := 1000000 }) (disch := omega) only [push_cast, ↓reduceIte, Nat.reduceEqDiff, Nat.reduceAdd, Nat.reduceLT, Nat.reduceLeDiff, Nat.reduceBEq, Nat.reduceMul, Nat.reduceSub, Int.reduceToNat, Int.reduceEq, Int.reduceLT, Int.reduceLE, Int.reduceNeg, Int.reduceAdd, Int.reduceSub, Int.reduceMul, Try.f49, kr49, kp49_1, ow49_1, ty3, h0, h2, ne_eq]
theorem abs_mx (r : Int) : mx r (-r) = r.natAbs := by unfold mx; split <;> omega
theorem o_gcd (a b : Int) (ha : -1000000 ≤ a ∧ a ≤ 1000000) (hb : -1000000 ≤ b ∧ b ≤ 1000000) : CALL 49 [I a, I b] = some (I (Nat.gcd a.natAbs b.natAbs : Nat), []) := by
  obtain ⟨r, h1, h2⟩ := ol_gcd1 b.natAbs a b (Nat.le_refl _)
  have hle : Nat.gcd a.natAbs b.natAbs ≤ 1000000 := gcd_le (by omega) (by omega)
  have e := abs_mx r
  rw [h1] at e
  refine lim_run (fn := Try.f49) fn49 rfl body49 (Nat.le_of_ble_eq_true rfl) ok49 ?_
  simp (config := { maxSteps := 1000000 }) (disch := omega) only [push_cast, ↓reduceIte, Nat.reduceEqDiff, Nat.reduceAdd, Nat.reduceLT, Nat.reduceLeDiff, Nat.reduceBEq, Nat.reduceMul, Nat.reduceSub, Int.reduceToNat, Int.reduceEq, Int.reduceLT, Int.reduceLE, Int.reduceNeg, Int.reduceAdd, Int.reduceSub, Int.reduceMul, Try.f49, kr49, kp49_1, ow49_1, ty3, h2, Int.zero_sub, e]
section
variable (ar a : Int) (b1 b2 b3 : Bool) (c1 c2 c3 : Option Nat) (E S : List Int) (ar' b : Int) (S' : List Int)
theorem ol_Gcd7 (h3 : E.length ≤ 3) (hS : S.length = E.length) (hS' : S'.length = E.length) (hN : allN S) (hN' : allN S') : ∀ (r q q' : List Int) (i d : Nat), E.drop i = r → S.drop i = q → S'.drop i = q' → d ≤ 1000000 →
    lp E0 pr0 17 7 ⟨[(4, .pt 0 0), (5, .pt 1 0), (8, I d), (32, SL b1 c1 E.length (ints E)), (33, I E.length), (34, I i)], [(0, .box [I ar, I a, SL b2 c2 S.length (ints S)]), (1, .box [I ar', I b, SL b3 c3 S'.length (ints S')])], 2⟩ =
      some (.exit 0, ⟨[(4, .pt 0 0), (5, .pt 1 0), (8, I (gcdN r q q' d : Nat))], [(0, .box [I ar, I a, SL b2 c2 S.length (ints S)]), (1, .box [I ar', I b, SL b3 c3 S'.length (ints S')])], 2⟩) := by
  intro r
  induction r with
  | nil =>
    intro q q' i d h1 h2 h4 hd
    have h5 := drop_nil h1
    have h6 : ¬ (i : Int) < E.length := by omega
    have e : gcdN [] q q' d = d := by cases q <;> cases q' <;> rfl
    rw [e]
    rw [lp_eq lp17_7]
    simp (config := { maxSteps := 1000000 }) (disch := omega) only [push_cast, ↓reduceIte, Nat.reduceEqDiff, Nat.reduceAdd, Nat.reduceLT, Nat.reduceLeDiff, Nat.reduceBEq, Nat.reduceMul, Nat.reduceSub, Int.reduceToNat, Int.reduceEq, Int.reduceLT, Int.reduceLE, Int.reduceNeg, Int.reduceAdd, Int.reduceSub, Int.reduceMul, Try.f17, kr17, kp17_7, ow17_7, ty3, ty4, ty25, ty28, ty30, tb4, h6]
  | cons x r ih =>
    intro q q' i d h1 h2 h4 hd
    obtain ⟨g1, g2, g3⟩ := drop_cons h1
    obtain ⟨s, q, rfl⟩ : ∃ s q', q = s :: q' := by
      cases q with
      | nil => have := drop_nil h2; omega
      | cons s q => exact ⟨s, q, rfl⟩
    obtain ⟨s', q', rfl⟩ : ∃ s q'', q' = s :: q'' := by
      cases q' with
      | nil => have := drop_nil h4; omega
      | cons s q => exact ⟨s, q, rfl⟩
    obtain ⟨g4, g5, g6⟩ := drop_cons h2
    obtain ⟨g7, g9, g10⟩ := drop_cons h4
    have k1 : (i : Int) < S.length := by omega
    have k2 : (i : Int) < S'.length := by omega
    have g8 : (i : Int) < E.length := by omega
    have hs := hN s (List.mem_of_getElem? g5)
    have hs' := hN' s' (List.mem_of_getElem? g9)
    unfold near at hs hs'
    rw [lp_eq lp17_7]
    by_cases hx : 1 < x
    · have l1 : Nat.gcd d s.natAbs ≤ 1000000 := gcd_le hd (by omega)
      have l2 : Nat.gcd (Nat.gcd d s.natAbs) s'.natAbs ≤ 1000000 := gcd_le l1 (by omega)
      have c1' := o_gcd d s (by omega) hs
      have c2' := o_gcd (Nat.gcd d s.natAbs : Nat) s' (by omega) hs'
      rw [Int.natAbs_natCast] at c1' c2'
      have ih' := ih q q' (i + 1) _ g3 g6 g10 l2
      rw [show gcdN r q q' (Nat.gcd (Nat.gcd d s.natAbs) s'.natAbs) = gcdN (x :: r) (s :: q) (s' :: q') d by rw [gcdN, if_pos hx]] at ih'
      simp only [cast1, List.length_append, List.length_cons, List.length_nil, Nat.zero_add, Nat.add_zero, Int.natCast_zero, Int.natCast_add, Int.zero_add, ints_1, ints_0, ] at ih'
      simp (config := { maxSteps := 1000000 }) (disch := omega) only [push_cast, ↓reduceIte, Nat.reduceEqDiff, Nat.reduceAdd, Nat.reduceLT, Nat.reduceLeDiff, Nat.reduceBEq, Nat.reduceMul, Nat.reduceSub, Int.reduceToNat, Int.reduceEq, Int.reduceLT, Int.reduceLE, Int.reduceNeg, Int.reduceAdd, Int.reduceSub, Int.reduceMul, Try.f17, kr17, kp17_7, ow17_7, ty3, ty4, ty25, ty28, ty30, tb4, g1, g4, g7, g8, k1, k2, getD_of g2, getD_of g5, getD_of g9, hx, c1', c2', ih']
    · have ih' := ih q q' (i + 1) d g3 g6 g10 hd
      rw [show gcdN r q q' d = gcdN (x :: r) (s :: q) (s' :: q') d by rw [gcdN, if_neg hx]] at ih'
      simp only [cast1, List.length_append, List.length_cons, List.length_nil, Nat.zero_add, Nat.add_zero, Int.natCast_zero, Int.natCast_add, Int.zero_add, ints_1, ints_0, ] at ih'
      simp (config := { maxSteps := 1000000 }) (disch := omega) only [push_cast, ↓reduceIte, Nat.reduceEqDiff, Nat.reduceAdd, Nat.reduceLT, Nat.reduceLeDiff, Nat.reduceBEq, Nat.reduceMul, Nat.reduceSub, Int.reduceToNat, Int.reduceEq, Int.reduceLT, Int.reduceLE, Int.reduceNeg, Int.reduceAdd, Int.reduceSub, Int.reduceMul, Try.f17, kr17, kp17_7, ow17_7, ty3, ty4, ty25, ty28, ty30, tb4, g1, g4, g7, g8, k1, k2, getD_of g2, getD_of g5, getD_of g9, hx, ih']
theorem gcd_dvd_iff (d : Nat) (h0 : ¬ (d : Int) = 0) : Int.tmod (b - a) d = 0 ↔ (d : Int) ∣ a - b := by
  rw [← Int.dvd_iff_tmod_eq_zero, ← Int.dvd_neg, Int.neg_sub]
theorem gcd_dvd_iff' (d : Nat) (h0 : ¬ (d : Int) = 0) : Int.tmod (a - b) d = 0 ↔ (d : Int) ∣ a - b := by
  rw [← Int.dvd_iff_tmod_eq_zero]
theorem o_Gcd (hE : (E.length : Int) ≤ 9223372036854775806) (hS : (S.length : Int) ≤ 9223372036854775806) (hS' : (S'.length : Int) ≤ 9223372036854775806) :
    CALL 17 [SL b1 c1 E.length (ints E), Rf ar a b2 c2 S, Rf ar' b b3 c3 S'] = some (.tup [B (decide (ar = ar') && gcdQ a E S b S'), I (errRR a E S b S')], []) := by
  have hv := fun b c b' c' => o_Valid ar a b b' c c' E S hE hS
  have hv' := fun b0 c b' c' => o_Valid ar' b b0 b' c c' E S' hE hS'
  unfold errRR gcdQ
  refine lim_run (fn := Try.f17) fn17 rfl body17 (Nat.le_of_ble_eq_true rfl) ok17 ?_
  by_cases h1 : okR a E S
  · by_cases h2 : okR b E S'
    · by_cases h3 : ar = ar'
      · subst h3
        have hm := fun b c => o_Many b c E hE
        have hs := many_some h1.1
        by_cases h4 : pr E = 0
        · simp (config := { maxSteps := 1000000 }) (disch := omega) only [push_cast, ↓reduceIte, Nat.reduceEqDiff, Nat.reduceAdd, Nat.reduceLT, Nat.reduceLeDiff, Nat.reduceBEq, Nat.reduceMul, Nat.reduceSub, Int.reduceToNat, Int.reduceEq, Int.reduceLT, Int.reduceLE, Int.reduceNeg, Int.reduceAdd, Int.reduceSub, Int.reduceMul, Try.f17, kr17, kp17_7, ow17_7, ty3, ty4, ty25, ty28, ty30, tb4, hv, hv', h1, h2, hm, hs, h4, ne_eq]
          all_goals simp [h4]
        · have hl := ol_Gcd7 ar a b1 b2 b3 c1 c2 c3 E S ar b S' h1.1.1.1.2 h1.2.1 h2.2.1 h1.2.2.2 h2.2.2.2 E S S' 0 0 rfl rfl rfl (by omega)
          simp only [cast1, List.length_append, List.length_cons, List.length_nil, Nat.zero_add, Nat.add_zero, Int.natCast_zero, Int.natCast_add, Int.zero_add, ints_1, ints_0, ] at hl
          generalize gcdN E S S' 0 = d at *
          have ha := h1.2.2.1
          have hb := h2.2.2.1
          unfold near at ha hb
          by_cases h5 : (d : Int) = 0
          · simp (config := { maxSteps := 1000000 }) (disch := omega) only [push_cast, ↓reduceIte, Nat.reduceEqDiff, Nat.reduceAdd, Nat.reduceLT, Nat.reduceLeDiff, Nat.reduceBEq, Nat.reduceMul, Nat.reduceSub, Int.reduceToNat, Int.reduceEq, Int.reduceLT, Int.reduceLE, Int.reduceNeg, Int.reduceAdd, Int.reduceSub, Int.reduceMul, Try.f17, kr17, kp17_7, ow17_7, ty3, ty4, ty25, ty28, ty30, tb4, hv, hv', h1, h2, hm, hs, h4, hl, h5, ne_eq]
            have e5 : decide (b - a = 0) = decide (a - b = 0) := by rw [decide_eq_decide]; omega
            simp [h5, e5]
          · have h6 := gcd_dvd_iff a b d h5
            simp (config := { maxSteps := 1000000 }) (disch := omega) only [push_cast, ↓reduceIte, Nat.reduceEqDiff, Nat.reduceAdd, Nat.reduceLT, Nat.reduceLeDiff, Nat.reduceBEq, Nat.reduceMul, Nat.reduceSub, Int.reduceToNat, Int.reduceEq, Int.reduceLT, Int.reduceLE, Int.reduceNeg, Int.reduceAdd, Int.reduceSub, Int.reduceMul, Try.f17, kr17, kp17_7, ow17_7, ty3, ty4, ty25, ty28, ty30, tb4, hv, hv', h1, h2, hm, hs, h4, hl, h5, ne_eq]
            all_goals simp [h6]
      · simp (config := { maxSteps := 1000000 }) (disch := omega) only [push_cast, ↓reduceIte, Nat.reduceEqDiff, Nat.reduceAdd, Nat.reduceLT, Nat.reduceLeDiff, Nat.reduceBEq, Nat.reduceMul, Nat.reduceSub, Int.reduceToNat, Int.reduceEq, Int.reduceLT, Int.reduceLE, Int.reduceNeg, Int.reduceAdd, Int.reduceSub, Int.reduceMul, Try.f17, kr17, kp17_7, ow17_7, ty3, ty4, ty25, ty28, ty30, tb4, hv, hv', h1, h2, h3, ne_eq]
    · simp (config := { maxSteps := 1000000 }) (disch := omega) only [push_cast, ↓reduceIte, Nat.reduceEqDiff, Nat.reduceAdd, Nat.reduceLT, Nat.reduceLeDiff, Nat.reduceBEq, Nat.reduceMul, Nat.reduceSub, Int.reduceToNat, Int.reduceEq, Int.reduceLT, Int.reduceLE, Int.reduceNeg, Int.reduceAdd, Int.reduceSub, Int.reduceMul, Try.f17, kr17, kp17_7, ow17_7, ty3, ty4, ty25, ty28, ty30, tb4, hv, hv', h1, h2]
  · simp (config := { maxSteps := 1000000 }) (disch := omega) only [push_cast, ↓reduceIte, Nat.reduceEqDiff, Nat.reduceAdd, Nat.reduceLT, Nat.reduceLeDiff, Nat.reduceBEq, Nat.reduceMul, Nat.reduceSub, Int.reduceToNat, Int.reduceEq, Int.reduceLT, Int.reduceLE, Int.reduceNeg, Int.reduceAdd, Int.reduceSub, Int.reduceMul, Try.f17, kr17, kp17_7, ow17_7, ty3, ty4, ty25, ty28, ty30, tb4, hv, hv', h1]
theorem o_Range (hE : (E.length : Int) ≤ 9223372036854775806) (hS : (S.length : Int) ≤ 9223372036854775806) (hS' : (S'.length : Int) ≤ 9223372036854775806) :
    CALL 18 [SL b1 c1 E.length (ints E), Rf ar a b2 c2 S, Rf ar' b b3 c3 S'] = some (.tup [B (decide (ar = ar') && rangeQ a E S b S'), I (errRR a E S b S')], []) := by
  have hv := fun b c b' c' => o_Valid ar a b b' c c' E S hE hS
  have hv' := fun b0 c b' c' => o_Valid ar' b b0 b' c c' E S' hE hS'
  unfold errRR rangeQ
  refine lim_run (fn := Try.f18) fn18 rfl body18 (Nat.le_of_ble_eq_true rfl) ok18 ?_
  by_cases h1 : okR a E S
  · by_cases h2 : okR b E S'
    · by_cases h3 : ar = ar'
      · subst h3
        have hm := fun b c => o_Many b c E hE
        have hs := many_some h1.1
        by_cases h4 : pr E = 0
        · simp (config := { maxSteps := 1000000 }) (disch := omega) only [push_cast, ↓reduceIte, Nat.reduceEqDiff, Nat.reduceAdd, Nat.reduceLT, Nat.reduceLeDiff, Nat.reduceBEq, Nat.reduceMul, Nat.reduceSub, Int.reduceToNat, Int.reduceEq, Int.reduceLT, Int.reduceLE, Int.reduceNeg, Int.reduceAdd, Int.reduceSub, Int.reduceMul, Try.f18, kr18, ty3, ty4, ty25, ty28, ty30, tb4, hv, hv', h1, h2, hm, hs, h4, ne_eq]
          all_goals simp [h4]
        · have e1 := fun b c b' c' => o_ends ar a b b' c c' E S h1
          have e2 := fun b0 c b' c' => o_ends ar b b0 b' c c' E S' h2
          by_cases h5 : a + lows E S ≤ b + highs E S'
          · simp (config := { maxSteps := 1000000 }) (disch := omega) only [push_cast, ↓reduceIte, Nat.reduceEqDiff, Nat.reduceAdd, Nat.reduceLT, Nat.reduceLeDiff, Nat.reduceBEq, Nat.reduceMul, Nat.reduceSub, Int.reduceToNat, Int.reduceEq, Int.reduceLT, Int.reduceLE, Int.reduceNeg, Int.reduceAdd, Int.reduceSub, Int.reduceMul, Try.f18, kr18, ty3, ty4, ty25, ty28, ty30, tb4, hv, hv', h1, h2, hm, hs, h4, e1, e2, h5, ne_eq]
            all_goals simp [h4]
          · simp (config := { maxSteps := 1000000 }) (disch := omega) only [push_cast, ↓reduceIte, Nat.reduceEqDiff, Nat.reduceAdd, Nat.reduceLT, Nat.reduceLeDiff, Nat.reduceBEq, Nat.reduceMul, Nat.reduceSub, Int.reduceToNat, Int.reduceEq, Int.reduceLT, Int.reduceLE, Int.reduceNeg, Int.reduceAdd, Int.reduceSub, Int.reduceMul, Try.f18, kr18, ty3, ty4, ty25, ty28, ty30, tb4, hv, hv', h1, h2, hm, hs, h4, e1, e2, h5, ne_eq]
      · simp (config := { maxSteps := 1000000 }) (disch := omega) only [push_cast, ↓reduceIte, Nat.reduceEqDiff, Nat.reduceAdd, Nat.reduceLT, Nat.reduceLeDiff, Nat.reduceBEq, Nat.reduceMul, Nat.reduceSub, Int.reduceToNat, Int.reduceEq, Int.reduceLT, Int.reduceLE, Int.reduceNeg, Int.reduceAdd, Int.reduceSub, Int.reduceMul, Try.f18, kr18, ty3, ty4, ty25, ty28, ty30, tb4, hv, hv', h1, h2, h3, ne_eq]
    · simp (config := { maxSteps := 1000000 }) (disch := omega) only [push_cast, ↓reduceIte, Nat.reduceEqDiff, Nat.reduceAdd, Nat.reduceLT, Nat.reduceLeDiff, Nat.reduceBEq, Nat.reduceMul, Nat.reduceSub, Int.reduceToNat, Int.reduceEq, Int.reduceLT, Int.reduceLE, Int.reduceNeg, Int.reduceAdd, Int.reduceSub, Int.reduceMul, Try.f18, kr18, ty3, ty4, ty25, ty28, ty30, tb4, hv, hv', h1, h2]
  · simp (config := { maxSteps := 1000000 }) (disch := omega) only [push_cast, ↓reduceIte, Nat.reduceEqDiff, Nat.reduceAdd, Nat.reduceLT, Nat.reduceLeDiff, Nat.reduceBEq, Nat.reduceMul, Nat.reduceSub, Int.reduceToNat, Int.reduceEq, Int.reduceLT, Int.reduceLE, Int.reduceNeg, Int.reduceAdd, Int.reduceSub, Int.reduceMul, Try.f18, kr18, ty3, ty4, ty25, ty28, ty30, tb4, hv, hv', h1]
end
end Go.Proofs.Ytnbijiopcgfmfaa.Tev
