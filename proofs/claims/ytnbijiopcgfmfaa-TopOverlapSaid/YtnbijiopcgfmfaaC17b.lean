/- overlap.places, Places, Inside. -/
import Derived.Test.YtnbijiopcgfmfaaC17a
namespace Go.Proofs.Ytnbijiopcgfmfaa.Tev
open Go Go.RowKit Go.Proofs Go.Proofs.Ytnbijiopcgfmfaa.Q
set_option linter.unusedSectionVars false
set_option maxRecDepth 100000
set_option maxHeartbeats 0
set_option linter.unusedSimpArgs false
set_option linter.unusedVariables false
section
variable (ar base : Int) (b1 b2 : Bool) (c1 c2 : Option Nat) (E S : List Int)
theorem ol_places12 (n k s : Int) (i : Nat) (hi : S[i]? = some s) (row : List Int) (hr : row.length ≤ 4000) : ∀ (r : List Int) (j : Nat) (out : List Int) (cp cq : Option Nat) (gr : Nat), row.drop j = r → out.length + r.length ≤ 4000 → gr ≤ 1 →
    ∃ cp' gr', gr' ≤ 1 ∧ lp E0 pr0 41 12 ⟨[(3, .pt 0 0), (5, .sl 1 0 out.length 1 cp), (6, I i), (7, I n), (8, .sl 2 0 row.length 1 cq), (9, I k), (18, SL b1 c1 E.length (ints E)), (19, I E.length), (20, I i), (31, .sl 2 0 row.length 1 cq), (32, I row.length), (33, I j)],
        [(0, .box [I ar, I base, SL b2 c2 S.length (ints S)]), (1, .arr (ints out) 1 1), (2, .arr (ints row) 1 gr)], 3⟩ =
      some (.exit 4, ⟨[(3, .pt 0 0), (5, .sl 1 0 (out ++ rowW r s k).length 1 cp'), (6, I i), (7, I n), (8, .sl 2 0 row.length 1 cq), (9, I k), (18, SL b1 c1 E.length (ints E)), (19, I E.length), (20, I i)],
        [(0, .box [I ar, I base, SL b2 c2 S.length (ints S)]), (1, .arr (ints (out ++ rowW r s k)) 1 1), (2, .arr (ints row) 1 gr')], 3⟩) := by
  intro r
  induction r with
  | nil =>
    intro j out cp cq gr h1 h2 h3
    have h4 := drop_nil h1
    have h5 : ¬ (j : Int) < row.length := by omega
    refine ⟨cp, gr, h3, ?_⟩
    have h6 : gr = 0 ∨ gr = 1 := by omega
    rcases h6 with rfl | rfl <;> clear h3
    all_goals rw [lp_eq lp41_12]
    all_goals simp (config := { maxSteps := 1000000 }) (disch := omega) only [push_cast, ↓reduceIte, Nat.reduceEqDiff, Nat.reduceAdd, Nat.reduceLT, Nat.reduceLeDiff, Nat.reduceBEq, Nat.reduceMul, Nat.reduceSub, Int.reduceToNat, Int.reduceEq, Int.reduceLT, Int.reduceLE, Int.reduceNeg, Int.reduceAdd, Int.reduceSub, Int.reduceMul, Try.f41, kr41, kp41_12, kp41_9, kp41_5, ow41_12, ow41_9, ow41_5, ty3, ty28, ty30, h5, rowW, List.map_nil, List.append_nil]
  | cons x r ih =>
    intro j out cp cq gr h1 h2 h3
    obtain ⟨h4, h5, h6⟩ := drop_cons h1
    have h7 : (j : Int) < row.length := by omega
    have h8 : i < S.length := by rcases Nat.lt_or_ge i S.length with h' | h'; exact h'; simp [h'] at hi
    have h9 : (i : Int) < S.length := by omega
    simp only [List.length_cons] at h2
    have e : out ++ [IntKind.i64.wrap (x + IntKind.i64.wrap (k * s))] ++ rowW r s k = out ++ rowW (x :: r) s k := by simp [rowW]
    obtain ⟨cp', gr', hg, ih'⟩ := ih (j + 1) (out ++ [IntKind.i64.wrap (x + IntKind.i64.wrap (k * s))]) none cq 0 h6 (by simp; omega) (by omega)
    rw [e] at ih'
    simp only [cast1, List.length_append, List.length_cons, List.length_nil, Nat.zero_add, Nat.add_zero, Int.natCast_zero, Int.natCast_add, Int.zero_add, ints_1, ints_0, ] at ih'
    refine ⟨cp', gr', hg, ?_⟩
    have h6 : gr = 0 ∨ gr = 1 := by omega
    rcases h6 with rfl | rfl <;> clear h3
    all_goals rw [lp_eq lp41_12]
    all_goals simp (config := { maxSteps := 1000000 }) (disch := omega) only [push_cast, ↓reduceIte, Nat.reduceEqDiff, Nat.reduceAdd, Nat.reduceLT, Nat.reduceLeDiff, Nat.reduceBEq, Nat.reduceMul, Nat.reduceSub, Int.reduceToNat, Int.reduceEq, Int.reduceLT, Int.reduceLE, Int.reduceNeg, Int.reduceAdd, Int.reduceSub, Int.reduceMul, Try.f41, kr41, kp41_12, kp41_9, kp41_5, ow41_12, ow41_9, ow41_5, ty3, ty28, ty30, h4, h7, h8, h9, getD_of h5, getD_of hi, ih']
theorem odimW_all (out : List Int) (s : Int) (n : Nat) (hn : 1 ≤ n) (h : ∀ x ∈ out, -9223372036854775808 ≤ x ∧ x ≤ 9223372036854775807) : out ++ dimW out s (n - 1) 1 = dimW out s n 0 := by
  obtain ⟨m, rfl⟩ : ∃ m, n = m + 1 := ⟨n - 1, by omega⟩
  rw [dimW_succ, rowW_zero s h]; rfl
theorem ol_places9 (n s : Int) (hn : n ≤ 4000) (i : Nat) (hi : S[i]? = some s) (row : List Int) (hr : row.length ≤ 4000) : ∀ (d : Nat) (k : Nat) (out : List Int) (cp cq : Option Nat) (gr : Nat), (k : Int) + d = n → out.length + d * row.length ≤ 4000 → gr ≤ 1 →
    ∃ cp', lp E0 pr0 41 9 ⟨[(3, .pt 0 0), (5, .sl 1 0 out.length 1 cp), (6, I i), (7, I n), (8, .sl 2 0 row.length 1 cq), (9, I k), (18, SL b1 c1 E.length (ints E)), (19, I E.length), (20, I i)],
        [(0, .box [I ar, I base, SL b2 c2 S.length (ints S)]), (1, .arr (ints out) 1 1), (2, .arr (ints row) 1 gr)], 3⟩ =
      some (.exit 2, ⟨[(3, .pt 0 0), (5, .sl 1 0 (out ++ dimW row s d k).length 1 cp'), (18, SL b1 c1 E.length (ints E)), (19, I E.length), (20, I i)],
        [(0, .box [I ar, I base, SL b2 c2 S.length (ints S)]), (1, .arr (ints (out ++ dimW row s d k)) 1 1)], 2⟩) := by
  intro d
  induction d with
  | zero =>
    intro k out cp cq gr h1 h2 h3
    have h5 : ¬ (k : Int) < n := by omega
    refine ⟨cp, ?_⟩
    have h6 : gr = 0 ∨ gr = 1 := by omega
    rcases h6 with rfl | rfl <;> clear h3
    all_goals rw [lp_eq lp41_9]
    all_goals simp (config := { maxSteps := 1000000 }) (disch := omega) only [push_cast, ↓reduceIte, Nat.reduceEqDiff, Nat.reduceAdd, Nat.reduceLT, Nat.reduceLeDiff, Nat.reduceBEq, Nat.reduceMul, Nat.reduceSub, Int.reduceToNat, Int.reduceEq, Int.reduceLT, Int.reduceLE, Int.reduceNeg, Int.reduceAdd, Int.reduceSub, Int.reduceMul, Try.f41, kr41, kp41_12, kp41_9, kp41_5, ow41_12, ow41_9, ow41_5, ty3, ty28, ty30, h5, dimW_zero, List.append_nil]
  | succ d ih =>
    intro k out cp cq gr h1 h2 h3
    have h7 : (k : Int) < n := by omega
    rw [Nat.succ_mul] at h2
    obtain ⟨cp1, gr1, hg, hl⟩ := ol_places12 ar base b1 b2 c1 c2 E S n k s i hi row hr row 0 out cp cq gr rfl (by omega) h3
    obtain ⟨cp', ih'⟩ := ih (k + 1) (out ++ rowW row s k) cp1 cq gr1 (by omega) (by rw [List.length_append, rowW_length]; omega) hg
    have e : out ++ rowW row s k ++ dimW row s d ((k + 1 : Nat) : Int) = out ++ dimW row s (d + 1) k := by rw [dimW_succ, List.append_assoc]; rfl
    rw [e] at ih'
    simp only [cast1, List.length_append, List.length_cons, List.length_nil, Nat.zero_add, Nat.add_zero, Int.natCast_zero, Int.natCast_add, Int.zero_add, ints_1, ints_0, ] at ih' hl
    refine ⟨cp', ?_⟩
    have h6 : gr = 0 ∨ gr = 1 := by omega
    have h6' : gr1 = 0 ∨ gr1 = 1 := by omega
    rcases h6 with rfl | rfl <;> rcases h6' with rfl | rfl <;> clear h3
    all_goals rw [lp_eq lp41_9]
    all_goals simp (config := { maxSteps := 1000000 }) (disch := omega) only [push_cast, ↓reduceIte, Nat.reduceEqDiff, Nat.reduceAdd, Nat.reduceLT, Nat.reduceLeDiff, Nat.reduceBEq, Nat.reduceMul, Nat.reduceSub, Int.reduceToNat, Int.reduceEq, Int.reduceLT, Int.reduceLE, Int.reduceNeg, Int.reduceAdd, Int.reduceSub, Int.reduceMul, Try.f41, kr41, kp41_12, kp41_9, kp41_5, ow41_12, ow41_9, ow41_5, ty3, ty28, ty30, h7, hl, ih']
theorem ol_places5 (hE : ∀ e ∈ E, 1 ≤ e ∧ e ≤ 400) (hl : E.length ≤ 3) (hS : S.length = E.length) : ∀ (r q : List Int) (i : Nat) (out : List Int) (cp : Option Nat), E.drop i = r → S.drop i = q → (out.length : Int) * pr r ≤ 4000 → (∀ x ∈ out, -9223372036854775808 ≤ x ∧ x ≤ 9223372036854775807) →
    ∃ cp', lp E0 pr0 41 5 ⟨[(3, .pt 0 0), (5, .sl 1 0 out.length 1 cp), (18, SL b1 c1 E.length (ints E)), (19, I E.length), (20, I i)],
        [(0, .box [I ar, I base, SL b2 c2 S.length (ints S)]), (1, .arr (ints out) 1 1)], 2⟩ =
      some (.exit 0, ⟨[(5, .sl 0 0 (plcW r q out).length 1 cp')], [(0, .arr (ints (plcW r q out)) 0 1)], 1⟩) := by
  intro r
  induction r with
  | nil =>
    intro q i out cp h1 h2 h3 h4
    have h5 := drop_nil h1
    have h6 : ¬ (i : Int) < E.length := by omega
    refine ⟨cp, ?_⟩
    rw [lp_eq lp41_5]
    simp (config := { maxSteps := 1000000 }) (disch := omega) only [push_cast, ↓reduceIte, Nat.reduceEqDiff, Nat.reduceAdd, Nat.reduceLT, Nat.reduceLeDiff, Nat.reduceBEq, Nat.reduceMul, Nat.reduceSub, Int.reduceToNat, Int.reduceEq, Int.reduceLT, Int.reduceLE, Int.reduceNeg, Int.reduceAdd, Int.reduceSub, Int.reduceMul, Try.f41, kr41, kp41_12, kp41_9, kp41_5, ow41_12, ow41_9, ow41_5, ty3, ty28, ty30, h6]
    simp [plcW]
  | cons n r ih =>
    intro q i out cp h1 h2 h3 h4
    obtain ⟨g1, g2, g3⟩ := drop_cons h1
    obtain ⟨s, q, rfl⟩ : ∃ s q', q = s :: q' := by
      cases q with
      | nil => have := drop_nil h2; omega
      | cons s q => exact ⟨s, q, rfl⟩
    obtain ⟨g4, g5, g6⟩ := drop_cons h2
    have g8 : (i : Int) < E.length := by omega
    obtain ⟨e0, e1⟩ := hE n (List.mem_of_getElem? g2)
    have hp : 1 ≤ pr r := pr_pos fun e he => (hE e (List.mem_of_mem_drop (g3 ▸ he))).1
    rw [pr, ← Int.mul_assoc] at h3
    have h5 : (out.length : Int) * n ≤ 4000 := mul_one_le (Int.mul_nonneg (by omega) (by omega)) hp h3
    have h6 : (out.length : Int) ≤ 4000 := mul_one_le (by omega) e0 h5
    have en : (n.toNat : Int) = n := by omega
    have h7 : out.length + (n.toNat - 1) * out.length ≤ 4000 := by
      have : ((n.toNat * out.length : Nat) : Int) ≤ 4000 := by push_cast; rw [en, Int.mul_comm]; exact h5
      obtain ⟨m, hm⟩ : ∃ m, n.toNat = m + 1 := ⟨n.toNat - 1, by omega⟩
      rw [hm] at this ⊢
      rw [Nat.succ_mul] at this
      simp only [Nat.add_sub_cancel]
      omega
    obtain ⟨cp1, hl⟩ := ol_places9 ar base b1 b2 c1 c2 E S n s (by omega) i g5 out (by omega) (n.toNat - 1) 1 out cp cp 1 (by omega) h7 (by omega)
    have hd : out ++ dimW out s (n.toNat - 1) ((1 : Nat) : Int) = dimW out s n.toNat 0 := odimW_all out s n.toNat (by omega) h4
    rw [hd] at hl
    obtain ⟨cp', ih'⟩ := ih q (i + 1) (dimW out s n.toNat 0) cp1 g3 g6 (by rw [dimW_length]; push_cast; rw [en, Int.mul_comm n]; exact h3) (fun x hx => dimW_in hx)
    simp only [cast1, List.length_append, List.length_cons, List.length_nil, Nat.zero_add, Nat.add_zero, Int.natCast_zero, Int.natCast_add, Int.zero_add, ints_1, ints_0, ] at ih' hl
    refine ⟨cp', ?_⟩
    rw [lp_eq lp41_5]
    simp (config := { maxSteps := 1000000 }) (disch := omega) only [push_cast, ↓reduceIte, Nat.reduceEqDiff, Nat.reduceAdd, Nat.reduceLT, Nat.reduceLeDiff, Nat.reduceBEq, Nat.reduceMul, Nat.reduceSub, Int.reduceToNat, Int.reduceEq, Int.reduceLT, Int.reduceLE, Int.reduceNeg, Int.reduceAdd, Int.reduceSub, Int.reduceMul, Try.f41, kr41, kp41_12, kp41_9, kp41_5, ow41_12, ow41_9, ow41_5, ty3, ty28, ty30, g1, g8, getD_of g2, hl, ih']
    rfl
theorem o_places (h : okR base E S) : CALL 41 [SL b1 c1 E.length (ints E), Rf ar base b2 c2 S] = some (.sl 0 0 (plcR base E S).length 1 none, [ints (plcR base E S)]) := by
  have h3 := h.1.1.1.2
  have hb := h.2.2.1
  unfold near at hb
  have hm := fun b c => o_Many b c E (by omega)
  have hs := many_some h.1
  have hp4 := h.1.2
  unfold plcR
  refine lim_run (fn := Try.f41) fn41 rfl body41 (Nat.le_of_ble_eq_true rfl) ok41 ?_
  by_cases h0 : pr E = 0
  · simp (config := { maxSteps := 1000000 }) (disch := omega) only [push_cast, ↓reduceIte, Nat.reduceEqDiff, Nat.reduceAdd, Nat.reduceLT, Nat.reduceLeDiff, Nat.reduceBEq, Nat.reduceMul, Nat.reduceSub, Int.reduceToNat, Int.reduceEq, Int.reduceLT, Int.reduceLE, Int.reduceNeg, Int.reduceAdd, Int.reduceSub, Int.reduceMul, Try.f41, kr41, kp41_12, kp41_9, kp41_5, ow41_12, ow41_9, ow41_5, ty3, ty28, ty30, hm, hs, h0]
  · obtain ⟨cp', hl⟩ := ol_places5 ar base b1 b2 c1 c2 E S (okX_pos h.1 h0) h3 h.2.1 E S 0 [base] (some 1) rfl rfl (by simp; omega) (by intro x hx; simp at hx; subst hx; omega)
    simp only [cast1, List.length_append, List.length_cons, List.length_nil, Nat.zero_add, Nat.add_zero, Int.natCast_zero, Int.natCast_add, Int.zero_add, ints_1, ints_0, ] at hl
    simp (config := { maxSteps := 1000000 }) (disch := omega) only [push_cast, ↓reduceIte, Nat.reduceEqDiff, Nat.reduceAdd, Nat.reduceLT, Nat.reduceLeDiff, Nat.reduceBEq, Nat.reduceMul, Nat.reduceSub, Int.reduceToNat, Int.reduceEq, Int.reduceLT, Int.reduceLE, Int.reduceNeg, Int.reduceAdd, Int.reduceSub, Int.reduceMul, Try.f41, kr41, kp41_12, kp41_9, kp41_5, ow41_12, ow41_9, ow41_5, ty3, ty28, ty30, hm, hs, h0, hl]
theorem o_Places (hE : (E.length : Int) ≤ 9223372036854775806) (hS : (S.length : Int) ≤ 9223372036854775806) :
    CALL 10 [SL b1 c1 E.length (ints E), Rf ar base b2 c2 S] = some (.tup [.sl 0 0 (placesR base E S).length 1 none, I (errR base E S)], [ints (placesR base E S)]) := by
  have hv := o_Valid ar base b1 b2 c1 c2 E S hE hS
  unfold placesR errR
  refine lim_run (fn := Try.f10) fn10 rfl body10 (Nat.le_of_ble_eq_true rfl) ok10 ?_
  by_cases hd : okR base E S
  · have hp := o_places ar base b1 b2 c1 c2 E S hd
    have hr : rowAt (ints (plcR base E S)) 0 (plcR base E S).length = ints (plcR base E S) := rowAt_all _ _ (by rw [ints_len])
    simp (config := { maxSteps := 1000000 }) (disch := omega) only [push_cast, ↓reduceIte, Nat.reduceEqDiff, Nat.reduceAdd, Nat.reduceLT, Nat.reduceLeDiff, Nat.reduceBEq, Nat.reduceMul, Nat.reduceSub, Int.reduceToNat, Int.reduceEq, Int.reduceLT, Int.reduceLE, Int.reduceNeg, Int.reduceAdd, Int.reduceSub, Int.reduceMul, Try.f10, kr10, ty3, ty25, ty28, ty30, hv, hd, hp, hr]
  · simp (config := { maxSteps := 1000000 }) (disch := omega) only [push_cast, ↓reduceIte, Nat.reduceEqDiff, Nat.reduceAdd, Nat.reduceLT, Nat.reduceLeDiff, Nat.reduceBEq, Nat.reduceMul, Nat.reduceSub, Int.reduceToNat, Int.reduceEq, Int.reduceLT, Int.reduceLE, Int.reduceNeg, Int.reduceAdd, Int.reduceSub, Int.reduceMul, Try.f10, kr10, ty3, ty25, ty28, ty30, hv, hd]
end
end Go.Proofs.Ytnbijiopcgfmfaa.Tev
