/- The law TopOverlap: what it returns for any input. -/
import Derived.Test.YtnbijiopcgfmfaaCTaw
import Derived.Test.YtnbijiopcgfmfaaC17e
import Derived.Test.YtnbijiopcgfmfaaCSec3
import Derived.Test.YtnbijiopcgfmfaaQSafe
import Derived.Test.YtnbijiopcgfmfaaTevRow
namespace Go.Proofs.Ytnbijiopcgfmfaa.Tev
open Go Go.RowKit Go.Proofs Go.Proofs.Ytnbijiopcgfmfaa.Q
set_option linter.unusedSectionVars false
set_option maxRecDepth 100000
set_option maxHeartbeats 0
set_option linter.unusedSimpArgs false
set_option linter.unusedVariables false
section
variable (ar a : Int) (E S : List Int) (ar' b : Int) (S' : List Int)
theorem safe_meet (h : 0 < (meetL ar a E S ar' b S').length) : (decide (ar = ar') && gcdQ a E S b S') = true ∧ (decide (ar = ar') && rangeQ a E S b S') = true := by
  unfold meetL at h
  split at h
  · rename_i hc
    obtain ⟨⟨h1, h2⟩, rfl⟩ := hc
    obtain ⟨z, hz⟩ : ∃ z, z ∈ pairsQ (placesR a E S) (placesR b E S') := by
      cases hl : pairsQ (placesR a E S) (placesR b E S') with
      | nil => rw [hl] at h; simp [castP] at h
      | cons z l => exact ⟨z, by simp⟩
    obtain ⟨x, q1, q2⟩ := (pairs_mem _ _ z).1 hz
    obtain ⟨k1, k2⟩ := safe_of h1 h2 (List.mem_of_getElem? q1) (List.mem_of_getElem? q2)
    rw [k1, k2]
    simp
  · simp at h
theorem places_same {a : Int} {E S : List Int} (h : okR a E S) (h' : okD a E S) : placesR a E S = placesQ a E S := by
  unfold placesR placesQ
  rw [if_pos h, if_pos h']
theorem share_meet (h1 : okR a E S) (h2 : okR b E S') (k1 : okD a E S) (k2 : okD b E S') : shareQ a E S b E S' = decide (0 < (meetL ar a E S ar b S').length) := by
  unfold shareQ meetL
  rw [decide_eq_true ⟨k1, k2⟩, Bool.true_and, if_pos ⟨⟨h1, h2⟩, rfl⟩, places_same h1 k1, places_same h2 k2, Bool.eq_iff_iff, List.any_eq_true, decide_eq_true_eq]
  generalize placesQ a E S = l
  generalize placesQ b E S' = m
  constructor
  · rintro ⟨x, hx, hc⟩
    have hc : x ∈ l := by simpa using hc
    obtain ⟨i, hi⟩ := List.getElem?_of_mem hc
    obtain ⟨j, hj⟩ := List.getElem?_of_mem hx
    have := (pairs_mem l m (i, j)).2 ⟨x, hi, hj⟩
    unfold castP
    rw [List.length_map]
    exact List.length_pos_of_mem this
  · intro h
    unfold castP at h
    rw [List.length_map] at h
    obtain ⟨z, hz⟩ := List.exists_mem_of_length_pos h
    obtain ⟨x, q1, q2⟩ := (pairs_mem _ _ z).1 hz
    exact ⟨x, List.mem_of_getElem? q2, by simpa using List.mem_of_getElem? q1⟩
theorem liftC_SLt (k n : Nat) (c : Option Nat) (l : List C) : liftC k (SL true c n l) = SL true c n l := rfl
theorem k_desc (b : Bool) (E S : List Int) : CALL 20 [SL true none E.length (ints E), Rf ar a true none S] = some (Dsc a true none E true none S, []) := by
  refine lim_run (fn := Try.f20) fn20 rfl body20 (Nat.le_of_ble_eq_true rfl) ok20 ?_
  simp (config := { maxSteps := 1000000 }) (disch := omega) only [push_cast, ↓reduceIte, Nat.reduceEqDiff, Nat.reduceAdd, Nat.reduceLT, Nat.reduceLeDiff, Nat.reduceBEq, Nat.reduceMul, Nat.reduceSub, Int.reduceToNat, Int.reduceEq, Int.reduceLT, Int.reduceLE, Int.reduceNeg, Int.reduceAdd, Int.reduceSub, Int.reduceMul, Try.f20, kr20, ty3, ty28, ty30, ty37]
  rfl
theorem TopOverlap_true' (hE : (E.length : Int) ≤ 9223372036854775806) (hS : (S.length : Int) ≤ 9223372036854775806) (hS' : (S'.length : Int) ≤ 9223372036854775806) :
    CALL3 4 [SL true none E.length (ints E), Rf ar a true none S, Rf ar' b true none S'] = some (B true, []) := by
  have tn := fun b c => old3 (by decide) (r17_Turns b c E)
  have gc := old3 (by decide) (o_Gcd ar a true true true none none none E S ar' b S' hE hS hS')
  have rg := old3 (by decide) (o_Range ar a true true true none none none E S ar' b S' hE hS hS')
  have mt := up3 (by decide) (s2_Meet ar a true true true none none none E S ar' b S' hE hS hS')
  have d1 := old3 (by decide) (k_desc ar a true E S)
  have d2 := old3 (by decide) (k_desc ar' b true E S')
  have v1 := old3 (by decide) (c_Valid a true true none none E S hE hS)
  have v2 := old3 (by decide) (c_Valid b true true none none E S' hE hS')
  have pl := old3 (by decide) (o_Places ar a true true none none E S hE hS)
  have ql := old3 (by decide) (c_Places a true true none none E S hE hS)
  have sh := old3 (by decide) (c_Share a true true none none E S b true true none none E S' hE hS hE hS')
  have tw := up3 (by decide) (up2 (by decide) (s1_Twice ar a true true none none E S hE hS))
  have ql4 := placesQ_len a E S
  have t2 := fun b c => s3_Twice b c (placesQ a E S) (by omega)
  have si := fun b c b' c' => old3 (by decide) (r17_SameInts b b' c c' (placesQ a E S) (placesQ a E S) (by omega))
  have hsafe := safe_meet ar a E S ar' b S'
  have hshare := share_meet ar a E S b S'
  by_cases q1 : 100 < manyQ E
  · refine lim_run (fn := Try.f4) fn4 (pr3_none (by decide) _) body4 (Nat.le_of_ble_eq_true rfl) ok4 ?_
    simp (config := { maxSteps := 1000000 }) (disch := omega) only [push_cast, ↓reduceIte, Nat.reduceEqDiff, Nat.reduceAdd, Nat.reduceLT, Nat.reduceLeDiff, Nat.reduceBEq, Nat.reduceMul, Nat.reduceSub, Int.reduceToNat, Int.reduceEq, Int.reduceLT, Int.reduceLE, Int.reduceNeg, Int.reduceAdd, Int.reduceSub, Int.reduceMul, Try.f4, kr4, ty3, ty4, ty28, ty30, ty37, tb4, tn, q1, s3_Awake]
  by_cases q2 : 20 < (E.length : Int)
  · refine lim_run (fn := Try.f4) fn4 (pr3_none (by decide) _) body4 (Nat.le_of_ble_eq_true rfl) ok4 ?_
    simp (config := { maxSteps := 1000000 }) (disch := omega) only [push_cast, ↓reduceIte, Nat.reduceEqDiff, Nat.reduceAdd, Nat.reduceLT, Nat.reduceLeDiff, Nat.reduceBEq, Nat.reduceMul, Nat.reduceSub, Int.reduceToNat, Int.reduceEq, Int.reduceLT, Int.reduceLE, Int.reduceNeg, Int.reduceAdd, Int.reduceSub, Int.reduceMul, Try.f4, kr4, ty3, ty4, ty28, ty30, ty37, tb4, tn, q1, q2, s3_Awake]
  by_cases q3 : 20 < (S.length : Int)
  · refine lim_run (fn := Try.f4) fn4 (pr3_none (by decide) _) body4 (Nat.le_of_ble_eq_true rfl) ok4 ?_
    simp (config := { maxSteps := 1000000 }) (disch := omega) only [push_cast, ↓reduceIte, Nat.reduceEqDiff, Nat.reduceAdd, Nat.reduceLT, Nat.reduceLeDiff, Nat.reduceBEq, Nat.reduceMul, Nat.reduceSub, Int.reduceToNat, Int.reduceEq, Int.reduceLT, Int.reduceLE, Int.reduceNeg, Int.reduceAdd, Int.reduceSub, Int.reduceMul, Try.f4, kr4, ty3, ty4, ty28, ty30, ty37, tb4, tn, q1, q2, q3, s3_Awake]
  by_cases q4 : 20 < (S'.length : Int)
  · refine lim_run (fn := Try.f4) fn4 (pr3_none (by decide) _) body4 (Nat.le_of_ble_eq_true rfl) ok4 ?_
    simp (config := { maxSteps := 1000000 }) (disch := omega) only [push_cast, ↓reduceIte, Nat.reduceEqDiff, Nat.reduceAdd, Nat.reduceLT, Nat.reduceLeDiff, Nat.reduceBEq, Nat.reduceMul, Nat.reduceSub, Int.reduceToNat, Int.reduceEq, Int.reduceLT, Int.reduceLE, Int.reduceNeg, Int.reduceAdd, Int.reduceSub, Int.reduceMul, Try.f4, kr4, ty3, ty4, ty28, ty30, ty37, tb4, tn, q1, q2, q3, q4, s3_Awake]
  rcases errRR_or a E S b S' with he | he
  · have hok : okR a E S ∧ okR b E S' := by unfold errRR at he; split at he; assumption; simp at he
    rw [he] at gc rg mt
    by_cases k1 : okD a E S
    · by_cases k2 : okD b E S'
      · rw [decide_eq_true k1] at v1
        rw [decide_eq_true k2] at v2
        have e1 : errR a E S = 0 := by unfold errR; rw [if_pos hok.1]
        have e2 : errD a E S = 0 := errD_ok.2 k1
        have e3 : errDD a E S b E S' = 0 := by unfold errDD; rw [if_pos ⟨k1, k2⟩]
        have pq := places_same hok.1 k1
        rw [pq, e1] at pl tw
        rw [e2] at ql
        rw [e3] at sh
        have si := fun b c b' c' => (si b c b' c').trans (by rw [decide_eq_true rfl])
        generalize decide (¬ (placesQ a E S).Nodup) = W at *
        by_cases h0 : ar = ar'
        · subst h0
          rw [hshare hok.1 hok.2 k1 k2] at sh
          by_cases hm : 0 < (meetL ar a E S ar b S').length
          · obtain ⟨x1, x2⟩ := hsafe hm
            rw [decide_eq_true hm] at mt sh
            rw [x1] at gc
            rw [x2] at rg
            generalize placesQ a E S = L at *
            refine lim_run (fn := Try.f4) fn4 (pr3_none (by decide) _) body4 (Nat.le_of_ble_eq_true rfl) ok4 ?_
            cases W <;> simp (config := { maxSteps := 1000000 }) (disch := omega) only [push_cast, ↓reduceIte, Nat.reduceEqDiff, Nat.reduceAdd, Nat.reduceLT, Nat.reduceLeDiff, Nat.reduceBEq, Nat.reduceMul, Nat.reduceSub, Int.reduceToNat, Int.reduceEq, Int.reduceLT, Int.reduceLE, Int.reduceNeg, Int.reduceAdd, Int.reduceSub, Int.reduceMul, Try.f4, kr4, ty3, ty4, ty28, ty30, ty37, tb4, tn, q1, q2, q3, q4, gc, rg, mt, d1, d2, v1, v2, pl, ql, sh, tw, t2, si, s3_Awake, ne_eq, liftC_SLt]
          · rw [decide_eq_false hm] at mt sh
            generalize (decide (ar = ar) && gcdQ a E S b S') = X at *
            generalize (decide (ar = ar) && rangeQ a E S b S') = Y at *
            generalize placesQ a E S = L at *
            refine lim_run (fn := Try.f4) fn4 (pr3_none (by decide) _) body4 (Nat.le_of_ble_eq_true rfl) ok4 ?_
            cases W <;> cases X <;> cases Y <;> simp (config := { maxSteps := 1000000 }) (disch := omega) only [push_cast, ↓reduceIte, Nat.reduceEqDiff, Nat.reduceAdd, Nat.reduceLT, Nat.reduceLeDiff, Nat.reduceBEq, Nat.reduceMul, Nat.reduceSub, Int.reduceToNat, Int.reduceEq, Int.reduceLT, Int.reduceLE, Int.reduceNeg, Int.reduceAdd, Int.reduceSub, Int.reduceMul, Try.f4, kr4, ty3, ty4, ty28, ty30, ty37, tb4, tn, q1, q2, q3, q4, gc, rg, mt, d1, d2, v1, v2, pl, ql, sh, tw, t2, si, s3_Awake, ne_eq, liftC_SLt]
        · have hm : ¬ 0 < (meetL ar a E S ar' b S').length := by
            unfold meetL
            rw [if_neg fun q => h0 q.2]
            simp
          rw [decide_eq_false hm] at mt
          generalize (decide (ar = ar') && gcdQ a E S b S') = X at *
          generalize (decide (ar = ar') && rangeQ a E S b S') = Y at *
          generalize shareQ a E S b E S' = V at *
          generalize placesQ a E S = L at *
          refine lim_run (fn := Try.f4) fn4 (pr3_none (by decide) _) body4 (Nat.le_of_ble_eq_true rfl) ok4 ?_
          cases W <;> cases X <;> cases Y <;> cases V <;> simp (config := { maxSteps := 1000000 }) (disch := omega) only [push_cast, ↓reduceIte, Nat.reduceEqDiff, Nat.reduceAdd, Nat.reduceLT, Nat.reduceLeDiff, Nat.reduceBEq, Nat.reduceMul, Nat.reduceSub, Int.reduceToNat, Int.reduceEq, Int.reduceLT, Int.reduceLE, Int.reduceNeg, Int.reduceAdd, Int.reduceSub, Int.reduceMul, Try.f4, kr4, ty3, ty4, ty28, ty30, ty37, tb4, tn, q1, q2, q3, q4, gc, rg, mt, d1, d2, v1, v2, pl, ql, sh, tw, t2, si, s3_Awake, ne_eq, liftC_SLt, h0]
      · rw [decide_eq_true k1] at v1
        rw [decide_eq_false k2] at v2
        by_cases hm : 0 < (meetL ar a E S ar' b S').length
        · obtain ⟨x1, x2⟩ := hsafe hm
          rw [decide_eq_true hm] at mt
          rw [x1] at gc
          rw [x2] at rg
          refine lim_run (fn := Try.f4) fn4 (pr3_none (by decide) _) body4 (Nat.le_of_ble_eq_true rfl) ok4 ?_
          simp (config := { maxSteps := 1000000 }) (disch := omega) only [push_cast, ↓reduceIte, Nat.reduceEqDiff, Nat.reduceAdd, Nat.reduceLT, Nat.reduceLeDiff, Nat.reduceBEq, Nat.reduceMul, Nat.reduceSub, Int.reduceToNat, Int.reduceEq, Int.reduceLT, Int.reduceLE, Int.reduceNeg, Int.reduceAdd, Int.reduceSub, Int.reduceMul, Try.f4, kr4, ty3, ty4, ty28, ty30, ty37, tb4, tn, q1, q2, q3, q4, gc, rg, mt, d1, d2, v1, v2, s3_Awake, ne_eq, liftC_SLt]
        · rw [decide_eq_false hm] at mt
          generalize (decide (ar = ar') && gcdQ a E S b S') = X at *
          generalize (decide (ar = ar') && rangeQ a E S b S') = Y at *
          refine lim_run (fn := Try.f4) fn4 (pr3_none (by decide) _) body4 (Nat.le_of_ble_eq_true rfl) ok4 ?_
          cases X <;> cases Y <;> simp (config := { maxSteps := 1000000 }) (disch := omega) only [push_cast, ↓reduceIte, Nat.reduceEqDiff, Nat.reduceAdd, Nat.reduceLT, Nat.reduceLeDiff, Nat.reduceBEq, Nat.reduceMul, Nat.reduceSub, Int.reduceToNat, Int.reduceEq, Int.reduceLT, Int.reduceLE, Int.reduceNeg, Int.reduceAdd, Int.reduceSub, Int.reduceMul, Try.f4, kr4, ty3, ty4, ty28, ty30, ty37, tb4, tn, q1, q2, q3, q4, gc, rg, mt, d1, d2, v1, v2, s3_Awake, ne_eq, liftC_SLt]
    · rw [decide_eq_false k1] at v1
      by_cases hm : 0 < (meetL ar a E S ar' b S').length
      · obtain ⟨x1, x2⟩ := hsafe hm
        rw [decide_eq_true hm] at mt
        rw [x1] at gc
        rw [x2] at rg
        refine lim_run (fn := Try.f4) fn4 (pr3_none (by decide) _) body4 (Nat.le_of_ble_eq_true rfl) ok4 ?_
        simp (config := { maxSteps := 1000000 }) (disch := omega) only [push_cast, ↓reduceIte, Nat.reduceEqDiff, Nat.reduceAdd, Nat.reduceLT, Nat.reduceLeDiff, Nat.reduceBEq, Nat.reduceMul, Nat.reduceSub, Int.reduceToNat, Int.reduceEq, Int.reduceLT, Int.reduceLE, Int.reduceNeg, Int.reduceAdd, Int.reduceSub, Int.reduceMul, Try.f4, kr4, ty3, ty4, ty28, ty30, ty37, tb4, tn, q1, q2, q3, q4, gc, rg, mt, d1, d2, v1, v2, s3_Awake, ne_eq, liftC_SLt]
      · rw [decide_eq_false hm] at mt
        generalize (decide (ar = ar') && gcdQ a E S b S') = X at *
        generalize (decide (ar = ar') && rangeQ a E S b S') = Y at *
        refine lim_run (fn := Try.f4) fn4 (pr3_none (by decide) _) body4 (Nat.le_of_ble_eq_true rfl) ok4 ?_
        cases X <;> cases Y <;> simp (config := { maxSteps := 1000000 }) (disch := omega) only [push_cast, ↓reduceIte, Nat.reduceEqDiff, Nat.reduceAdd, Nat.reduceLT, Nat.reduceLeDiff, Nat.reduceBEq, Nat.reduceMul, Nat.reduceSub, Int.reduceToNat, Int.reduceEq, Int.reduceLT, Int.reduceLE, Int.reduceNeg, Int.reduceAdd, Int.reduceSub, Int.reduceMul, Try.f4, kr4, ty3, ty4, ty28, ty30, ty37, tb4, tn, q1, q2, q3, q4, gc, rg, mt, d1, d2, v1, v2, s3_Awake, ne_eq, liftC_SLt]
  · have hm : ¬ 0 < (meetL ar a E S ar' b S').length := by
      rw [meetL_err ar a E S ar' b S' he]
      simp
    rw [he] at gc rg mt
    rw [decide_eq_false hm] at mt
    generalize (decide (ar = ar') && gcdQ a E S b S') = X at *
    generalize (decide (ar = ar') && rangeQ a E S b S') = Y at *
    refine lim_run (fn := Try.f4) fn4 (pr3_none (by decide) _) body4 (Nat.le_of_ble_eq_true rfl) ok4 ?_
    cases X <;> cases Y <;> simp (config := { maxSteps := 1000000 }) (disch := omega) only [push_cast, ↓reduceIte, Nat.reduceEqDiff, Nat.reduceAdd, Nat.reduceLT, Nat.reduceLeDiff, Nat.reduceBEq, Nat.reduceMul, Nat.reduceSub, Int.reduceToNat, Int.reduceEq, Int.reduceLT, Int.reduceLE, Int.reduceNeg, Int.reduceAdd, Int.reduceSub, Int.reduceMul, Try.f4, kr4, ty3, ty4, ty28, ty30, ty37, tb4, tn, q1, q2, q3, q4, gc, rg, mt, d1, d2, s3_Awake, ne_eq, liftC_SLt]
end
theorem TopOverlap_true (x : List Int) (y z : Int × Int × List Int) (hx : x.length * 8 ≤ 140737488351232 ∧ ∀ n ∈ x, -9223372036854775808 ≤ n ∧ n ≤ 9223372036854775807)
    (hy : (-9223372036854775808 ≤ y.1 ∧ y.1 ≤ 9223372036854775807) ∧ (-9223372036854775808 ≤ y.2.1 ∧ y.2.1 ≤ 9223372036854775807) ∧ (y.2.2.length * 8 ≤ 140737488351232 ∧ ∀ n ∈ y.2.2, -9223372036854775808 ≤ n ∧ n ≤ 9223372036854775807))
    (hz : (-9223372036854775808 ≤ z.1 ∧ z.1 ≤ 9223372036854775807) ∧ (-9223372036854775808 ≤ z.2.1 ∧ z.2.1 ≤ 9223372036854775807) ∧ (z.2.2.length * 8 ≤ 140737488351232 ∧ ∀ n ∈ z.2.2, -9223372036854775808 ≤ n ∧ n ≤ 9223372036854775807)) :
    CALL3 4 [.c (.s none x.length (ints x)), .agg [I y.1, I y.2.1, .c (.s none y.2.2.length (ints y.2.2))], .agg [I z.1, I z.2.1, .c (.s none z.2.2.length (ints z.2.2))]] = some (B true, []) :=
  TopOverlap_true' y.1 y.2.1 x y.2.2 z.1 z.2.1 z.2.2 (by have := hx.1; omega) (by have := hy.2.2.1; omega) (by have := hz.2.2.1; omega)
end Go.Proofs.Ytnbijiopcgfmfaa.Tev
