/- The document's Leave. -/
import Derived.Test.YtochkebkfoophaaC24g
namespace Go.Proofs.Ytochkebkfoophaa.Tev
open Go Go.RowKit Go.Proofs Go.Proofs.Ytochkebkfoophaa.Q
set_option linter.unusedSectionVars false
set_option maxRecDepth 100000
set_option maxHeartbeats 0
set_option linter.unusedSimpArgs false
set_option linter.unusedVariables false
theorem putL_app (X Y : List Int) : ∀ (r q : List Int), (∀ x ∈ r, 0 ≤ x ∧ x < X.length) → putL r q (X ++ Y) = putL r q X ++ Y
  | [], q, _ => rfl
  | x :: r, [], _ => rfl
  | x :: r, y :: q, h => by
    have hx := h x (by simp)
    rw [putL, putL, List.set_append_left _ _ (by omega)]
    exact putL_app (X.set x.toNat y) Y r q (fun z hz => by rw [List.length_set]; exact h z (by simp [hz]))
theorem levQ_app (m Y : List Int) : ∀ (r : List PassQ) (X : List Int) (t : Nat), (∀ p ∈ r, ∀ x ∈ plP p, 0 ≤ x ∧ x < X.length) → levQ m r (X ++ Y) t = levQ m r X t ++ Y
  | [], X, t, _ => rfl
  | p :: r, X, t, h => by
    have hr : ∀ Z : List Int, Z.length = X.length → ∀ q ∈ r, ∀ x ∈ plP q, 0 ≤ x ∧ x < Z.length := fun Z hZ q hq => by rw [hZ]; exact h q (by simp [hq])
    rw [levQ, levQ]
    split
    · split
      · rw [putL_app X Y _ _ (h p (by simp))]
        exact levQ_app m Y r _ _ (hr _ (putL_len _ _ _))
      · exact levQ_app m Y r _ _ (hr _ rfl)
    · exact levQ_app m Y r _ _ (hr _ rfl)
section
variable (q b : Bool) (c cm : Option Nat) (m : List Int) (l : List PassQ)
theorem rl_Leave4 (n : Nat) (hn : n ≤ 4000) (hnm : n ≤ m.length) (hm : m.length ≤ 16000) (hl : l.length ≤ 8) (hb : ∀ p ∈ l, bdP p) : ∀ (r : List PassQ) (i : Nat), l.drop i = r →
    lp E0 pr0 24 4 ⟨[(0, SL b cm m.length (ints m)), (1, PsT q c l), (2, I n), (8, I i)], [], 0⟩ =
      if errA n r = 0 then some (.exit 0, ⟨[(0, SL b cm m.length (ints m)), (1, PsT q c l), (2, I n)], [], 0⟩) else some (.ret, ⟨[(6, nilC), (7, I (errA n r))], [], 0⟩) := by
  intro r
  have htl : (m.take n).length = n := by rw [List.length_take]; omega
  have k6 : (n : Int) ≤ m.length := by omega
  induction r with
  | nil =>
    intro i h1
    have h5 := drop_nil h1
    have h6 : ¬ (i : Int) < l.length := by omega
    rw [lp_eq lp24_4]
    simp (config := { maxSteps := 1000000 }) (disch := omega) only [push_cast, ↓reduceIte, Nat.reduceEqDiff, Nat.reduceAdd, Nat.reduceLT, Nat.reduceLeDiff, Nat.reduceBEq, Nat.reduceMul, Nat.reduceSub, Int.reduceToNat, Int.reduceEq, Int.reduceLT, Int.reduceLE, Int.reduceNeg, Int.reduceAdd, Int.reduceSub, Int.reduceMul, Try.f24, kr24, kp24_17, kp24_12, kp24_4, ow24_17, ow24_12, ow24_4, ty3, ty4, ty9, ty22, ty23, ty27, ty34, ty36, tb4, h6, errA]
  | cons p r ih =>
    intro i h1
    obtain ⟨g1, g2, g3⟩ := drop_cons h1
    have g8 : (i : Int) < l.length := by omega
    have ih' := ih (i + 1) g3
    have hp := hb p (List.mem_of_getElem? g2)
    have hv := fun cap => r_inside p.1.1 b true true cap none none (m.take n) p.1.2.1 p.1.2.2 hp.1 (by omega)
    rw [htl] at hv
    simp only [cast1, List.length_append, List.length_cons, List.length_nil, Nat.zero_add, Nat.add_zero, Int.natCast_zero, Int.natCast_add, Int.zero_add, ints_1, ints_0, ] at ih'
    rw [lp_eq lp24_4]
    unfold errA
    by_cases hx : errI n p.1.1 p.1.2.1 p.1.2.2 = 0
    · simp (config := { maxSteps := 1000000 }) (disch := omega) only [push_cast, ↓reduceIte, Nat.reduceEqDiff, Nat.reduceAdd, Nat.reduceLT, Nat.reduceLeDiff, Nat.reduceBEq, Nat.reduceMul, Nat.reduceSub, Int.reduceToNat, Int.reduceEq, Int.reduceLT, Int.reduceLE, Int.reduceNeg, Int.reduceAdd, Int.reduceSub, Int.reduceMul, Try.f24, kr24, kp24_17, kp24_12, kp24_4, ow24_17, ow24_12, ow24_4, ty3, ty4, ty9, ty22, ty23, ty27, ty34, ty36, tb4, g1, g8, k6, Nat.sub_zero, row_take, ps0 g2, ps1 g2, ps2 g2, ps3 g2, ps4 g2, hv, hx, ih']
    · simp (config := { maxSteps := 1000000 }) (disch := omega) only [push_cast, ↓reduceIte, Nat.reduceEqDiff, Nat.reduceAdd, Nat.reduceLT, Nat.reduceLeDiff, Nat.reduceBEq, Nat.reduceMul, Nat.reduceSub, Int.reduceToNat, Int.reduceEq, Int.reduceLT, Int.reduceLE, Int.reduceNeg, Int.reduceAdd, Int.reduceSub, Int.reduceMul, Try.f24, kr24, kp24_17, kp24_12, kp24_4, ow24_17, ow24_12, ow24_4, ty3, ty4, ty9, ty22, ty23, ty27, ty34, ty36, tb4, g1, g8, k6, Nat.sub_zero, row_take, ps0 g2, ps1 g2, ps2 g2, ps3 g2, ps4 g2, hv, hx]
theorem rl_Leave17 (n : Nat) (hm : m.length ≤ 16000) (hl : l.length ≤ 8) (i : Nat) (p : PassQ) (hp : l[i]? = some p) (P : List Int) (hP : P.length ≤ 4000) (hx : ∀ x ∈ P, 0 ≤ x ∧ x < m.length) : ∀ (r : List Int) (k t : Nat) (out : List Int), P.drop k = r → out.length = m.length → t + r.length ≤ m.length →
    lp E0 pr0 24 17 ⟨[(0, SL b cm m.length (ints m)), (1, PsT q c l), (2, I n), (10, .sl 0 0 m.length 1 none), (11, I t), (12, I i), (13, .sl 1 0 P.length 1 none), (15, I k)], [(0, .arr (ints out) 0 1), (1, .arr (ints P) 1 1)], 2⟩ =
      some (.exit 4, ⟨[(0, SL b cm m.length (ints m)), (1, PsT q c l), (2, I n), (10, .sl 0 0 m.length 1 none), (11, I (t + r.length)), (12, I i)], [(0, .arr (ints (if chP p = true then putL r (segQ m t r.length) out else out)) 0 1)], 1⟩) := by
  intro r
  have hi0 : i < l.length := by
    rcases Nat.lt_or_ge i l.length with h | h
    · exact h
    · rw [List.getElem?_eq_none h] at hp; simp at hp
  have hi : (i : Int) < l.length := by omega
  induction r with
  | nil =>
    intro k t out h1 h2 h3
    have h5 := drop_nil h1
    have h6 : ¬ (k : Int) < P.length := by omega
    have e : (if chP p = true then putL [] (segQ m t ([] : List Int).length) out else out) = out := by split <;> rfl
    rw [e]
    rw [lp_eq lp24_17]
    simp (config := { maxSteps := 1000000 }) (disch := omega) only [push_cast, ↓reduceIte, Nat.reduceEqDiff, Nat.reduceAdd, Nat.reduceLT, Nat.reduceLeDiff, Nat.reduceBEq, Nat.reduceMul, Nat.reduceSub, Int.reduceToNat, Int.reduceEq, Int.reduceLT, Int.reduceLE, Int.reduceNeg, Int.reduceAdd, Int.reduceSub, Int.reduceMul, Try.f24, kr24, kp24_17, kp24_12, kp24_4, ow24_17, ow24_12, ow24_4, ty3, ty4, ty9, ty22, ty23, ty27, ty34, ty36, tb4, h6, Int.add_zero]
  | cons x r ih =>
    intro k t out h1 h2 h3
    obtain ⟨g1, g2, g3⟩ := drop_cons h1
    have g8 : (k : Int) < P.length := by omega
    obtain ⟨e0, e1⟩ := hx x (List.mem_of_getElem? g2)
    obtain ⟨s, rfl⟩ : ∃ k : Nat, x = k := ⟨x.toNat, by omega⟩
    simp only [List.length_cons] at h3
    have t0 : t < m.length := by omega
    have t1 : (t : Int) < m.length := by omega
    have hs : s < out.length := by omega
    have tz : ((r.length + 1 : Nat) : Int) = (r.length : Int) + 1 := rfl
    have ta : (t : Int) + 1 + (r.length : Int) = (t : Int) + ((r.length : Int) + 1) := by omega
    by_cases hc : chP p = true
    · have hc' := hc
      unfold chP at hc'
      simp only [Bool.and_eq_true, decide_eq_true_eq] at hc'
      have ih' := ih (k + 1) (t + 1) (out.set s (m.getD t 0)) g3 (by rw [List.length_set, h2]) (by omega)
      rw [if_pos hc] at ih' ⊢
      simp only [cast1, List.length_append, List.length_cons, List.length_nil, Nat.zero_add, Nat.add_zero, Int.natCast_zero, Int.natCast_add, Int.zero_add, ints_1, ints_0, ] at ih'
      rw [ta] at ih'
      rw [lp_eq lp24_17]
      simp (config := { maxSteps := 1000000 }) (disch := omega) only [push_cast, ↓reduceIte, Nat.reduceEqDiff, Nat.reduceAdd, Nat.reduceLT, Nat.reduceLeDiff, Nat.reduceBEq, Nat.reduceMul, Nat.reduceSub, Int.reduceToNat, Int.reduceEq, Int.reduceLT, Int.reduceLE, Int.reduceNeg, Int.reduceAdd, Int.reduceSub, Int.reduceMul, Try.f24, kr24, kp24_17, kp24_12, kp24_4, ow24_17, ow24_12, ow24_4, ty3, ty4, ty9, ty22, ty23, ty27, ty34, ty36, tb4, g1, g8, hi0, hi, t0, t1, hs, h2, e1, getD_of g2, ps0 hp, ps1 hp, ps2 hp, ps3 hp, ps4 hp, hc'.1, hc'.2, splice_ints _ hs, ih', putL, segQ, tz, ne_eq]
    · have ih' := ih (k + 1) (t + 1) out g3 h2 (by omega)
      rw [if_neg hc] at ih' ⊢
      simp only [cast1, List.length_append, List.length_cons, List.length_nil, Nat.zero_add, Nat.add_zero, Int.natCast_zero, Int.natCast_add, Int.zero_add, ints_1, ints_0, ] at ih'
      rw [ta] at ih'
      rw [lp_eq lp24_17]
      unfold chP at hc
      by_cases hc1 : p.2.2 = true
      · have hc2 : p.2.1 = (ByteArray.mk #[118, 97, 108, 117, 101]) := by
          refine Decidable.byContradiction fun h => hc ?_
          simp [hc1, h]
        simp (config := { maxSteps := 1000000 }) (disch := omega) only [push_cast, ↓reduceIte, Nat.reduceEqDiff, Nat.reduceAdd, Nat.reduceLT, Nat.reduceLeDiff, Nat.reduceBEq, Nat.reduceMul, Nat.reduceSub, Int.reduceToNat, Int.reduceEq, Int.reduceLT, Int.reduceLE, Int.reduceNeg, Int.reduceAdd, Int.reduceSub, Int.reduceMul, Try.f24, kr24, kp24_17, kp24_12, kp24_4, ow24_17, ow24_12, ow24_4, ty3, ty4, ty9, ty22, ty23, ty27, ty34, ty36, tb4, g1, g8, hi0, hi, t0, t1, hs, h2, e1, getD_of g2, ps0 hp, ps1 hp, ps2 hp, ps3 hp, ps4 hp, hc1, hc2, ih', tz]
      · have hc1 : p.2.2 = false := by simpa using hc1
        simp (config := { maxSteps := 1000000 }) (disch := omega) only [push_cast, ↓reduceIte, Nat.reduceEqDiff, Nat.reduceAdd, Nat.reduceLT, Nat.reduceLeDiff, Nat.reduceBEq, Nat.reduceMul, Nat.reduceSub, Int.reduceToNat, Int.reduceEq, Int.reduceLT, Int.reduceLE, Int.reduceNeg, Int.reduceAdd, Int.reduceSub, Int.reduceMul, Try.f24, kr24, kp24_17, kp24_12, kp24_4, ow24_17, ow24_12, ow24_4, ty3, ty4, ty9, ty22, ty23, ty27, ty34, ty36, tb4, g1, g8, hi0, hi, t0, t1, hs, h2, e1, getD_of g2, ps0 hp, ps1 hp, ps2 hp, ps3 hp, ps4 hp, hc1, ih', tz]
theorem rl_Leave12 (hm : m.length ≤ 16000) (hl : l.length ≤ 8) (hb : ∀ p ∈ l, bdP p) (ho : ∀ p ∈ l, okPs p) (n : Nat) (hn : n ≤ m.length) (hpl : ∀ p ∈ l, ∀ x ∈ plP p, 0 ≤ x ∧ x < m.length) : ∀ (r : List PassQ) (i : Nat) (out : List Int) (t : Nat), l.drop i = r → out.length = m.length → t + roomN r ≤ m.length →
    lp E0 pr0 24 12 ⟨[(0, SL b cm m.length (ints m)), (1, PsT q c l), (2, I n), (10, .sl 0 0 m.length 1 none), (11, I t), (12, I i)], [(0, .arr (ints out) 0 1)], 1⟩ =
      some (.exit 2, ⟨[(2, I n), (10, .sl 0 0 m.length 1 none)], [(0, .arr (ints (levQ m r out t)) 0 1)], 1⟩) := by
  intro r
  induction r with
  | nil =>
    intro i out t h1 h2 h3
    have h5 := drop_nil h1
    have h6 : ¬ (i : Int) < l.length := by omega
    rw [lp_eq lp24_12]
    simp (config := { maxSteps := 1000000 }) (disch := omega) only [push_cast, ↓reduceIte, Nat.reduceEqDiff, Nat.reduceAdd, Nat.reduceLT, Nat.reduceLeDiff, Nat.reduceBEq, Nat.reduceMul, Nat.reduceSub, Int.reduceToNat, Int.reduceEq, Int.reduceLT, Int.reduceLE, Int.reduceNeg, Int.reduceAdd, Int.reduceSub, Int.reduceMul, Try.f24, kr24, kp24_17, kp24_12, kp24_4, ow24_17, ow24_12, ow24_4, ty3, ty4, ty9, ty22, ty23, ty27, ty34, ty36, tb4, h6, levQ]
  | cons p r ih =>
    intro i out t h1 h2 h3
    obtain ⟨g1, g2, g3⟩ := drop_cons h1
    have g8 : (i : Int) < l.length := by omega
    have hmem := List.mem_of_getElem? g2
    have hp := hb p hmem
    have hk := r_packed true true none none p hp (ho p hmem).2
    have hv : CALL 13 [Dsc p.1.1 true none p.1.2.1 true none p.1.2.2] = some (.tup [.sl 0 0 (plP p).length 1 none, I (errD p.1.1 p.1.2.1 p.1.2.2)], [ints (plP p)]) := r_Places p.1.1 true true none none p.1.2.1 p.1.2.2 hp.1
    have n1 : (plP p).length ≤ 4000 := placesQ_len _ _ _
    rw [roomN] at h3
    unfold levQ
    by_cases hx : packedQ p = true
    · rw [if_pos hx] at h3 ⊢
      have hin := rl_Leave17 q b c cm m l n hm hl i p g2 (plP p) n1 (hpl p hmem) (plP p) 0 t out rfl h2 (by omega)
      have ih' := ih (i + 1) (if chP p = true then putL (plP p) (segQ m t (plP p).length) out else out) (t + (plP p).length) g3 (by split <;> simp [putL_len, h2]) (by omega)
      simp only [cast1, List.length_append, List.length_cons, List.length_nil, Nat.zero_add, Nat.add_zero, Int.natCast_zero, Int.natCast_add, Int.zero_add, ints_1, ints_0, ] at ih' hin
      rw [lp_eq lp24_12]
      simp (config := { maxSteps := 1000000 }) (disch := omega) only [push_cast, ↓reduceIte, Nat.reduceEqDiff, Nat.reduceAdd, Nat.reduceLT, Nat.reduceLeDiff, Nat.reduceBEq, Nat.reduceMul, Nat.reduceSub, Int.reduceToNat, Int.reduceEq, Int.reduceLT, Int.reduceLE, Int.reduceNeg, Int.reduceAdd, Int.reduceSub, Int.reduceMul, Try.f24, kr24, kp24_17, kp24_12, kp24_4, ow24_17, ow24_12, ow24_4, ty3, ty4, ty9, ty22, ty23, ty27, ty34, ty36, tb4, g1, g8, ps0 g2, ps1 g2, ps2 g2, ps3 g2, ps4 g2, hv, hk, hx, hin, ih']
    · rw [if_neg hx] at h3 ⊢
      have ih' := ih (i + 1) out t g3 h2 (by omega)
      simp only [cast1, List.length_append, List.length_cons, List.length_nil, Nat.zero_add, Nat.add_zero, Int.natCast_zero, Int.natCast_add, Int.zero_add, ints_1, ints_0, ] at ih'
      rw [lp_eq lp24_12]
      simp (config := { maxSteps := 1000000 }) (disch := omega) only [push_cast, ↓reduceIte, Nat.reduceEqDiff, Nat.reduceAdd, Nat.reduceLT, Nat.reduceLeDiff, Nat.reduceBEq, Nat.reduceMul, Nat.reduceSub, Int.reduceToNat, Int.reduceEq, Int.reduceLT, Int.reduceLE, Int.reduceNeg, Int.reduceAdd, Int.reduceSub, Int.reduceMul, Try.f24, kr24, kp24_17, kp24_12, kp24_4, ow24_17, ow24_12, ow24_4, ty3, ty4, ty9, ty22, ty23, ty27, ty34, ty36, tb4, g1, g8, ps0 g2, ps1 g2, ps2 g2, ps3 g2, ps4 g2, hv, hk, hx, ih']
theorem r_Leave (n : Int) (hm : (m.length : Int) ≤ 40000) (hlb : (l.length : Int) ≤ 9223372036854775806) (hb : ∀ p ∈ l, bdP p) :
    CALL 24 [SL b cm m.length (ints m), PsT q c l, I n] = some (.tup [.sl 0 0 (levR m l n).length 1 none, I (errL m l n)], [ints (levR m l n)]) := by
  have h1 := r_isPasses q c l hlb hb
  have hr := roomQ_bd l
  unfold levR errL
  refine lim_run (fn := Try.f24) fn24 rfl body24 (Nat.le_of_ble_eq_true rfl) ok24 ?_
  by_cases ho : okAll l
  · have h0 := ho.1
    have h3 := r_room q c l (by omega) hb ho.2
    by_cases k1 : n < 0
    · have e : ¬ (((0 ≤ n ∧ n ≤ 4000) ∧ (m.length : Int) = n + roomQ l ∧ (m.length : Int) ≤ 16000) ∧ okAll l) := fun h => by omega
      rw [if_neg e]
      simp (config := { maxSteps := 1000000 }) (disch := omega) only [push_cast, ↓reduceIte, Nat.reduceEqDiff, Nat.reduceAdd, Nat.reduceLT, Nat.reduceLeDiff, Nat.reduceBEq, Nat.reduceMul, Nat.reduceSub, Int.reduceToNat, Int.reduceEq, Int.reduceLT, Int.reduceLE, Int.reduceNeg, Int.reduceAdd, Int.reduceSub, Int.reduceMul, Try.f24, kr24, kp24_17, kp24_12, kp24_4, ow24_17, ow24_12, ow24_4, ty3, ty4, ty9, ty22, ty23, ty27, ty34, ty36, tb4, h1, ho, k1]
    · by_cases k2 : 4000 < n
      · have e : ¬ (((0 ≤ n ∧ n ≤ 4000) ∧ (m.length : Int) = n + roomQ l ∧ (m.length : Int) ≤ 16000) ∧ okAll l) := fun h => by omega
        rw [if_neg e]
        simp (config := { maxSteps := 1000000 }) (disch := omega) only [push_cast, ↓reduceIte, Nat.reduceEqDiff, Nat.reduceAdd, Nat.reduceLT, Nat.reduceLeDiff, Nat.reduceBEq, Nat.reduceMul, Nat.reduceSub, Int.reduceToNat, Int.reduceEq, Int.reduceLT, Int.reduceLE, Int.reduceNeg, Int.reduceAdd, Int.reduceSub, Int.reduceMul, Try.f24, kr24, kp24_17, kp24_12, kp24_4, ow24_17, ow24_12, ow24_4, ty3, ty4, ty9, ty22, ty23, ty27, ty34, ty36, tb4, h1, ho, k1, k2]
      · obtain ⟨n, rfl⟩ : ∃ k : Nat, n = k := ⟨n.toNat, by omega⟩
        by_cases k5 : (m.length : Int) = n + roomQ l
        · by_cases k4 : 16000 < (m.length : Int)
          · have e : ¬ (((0 ≤ (n : Int) ∧ (n : Int) ≤ 4000) ∧ (m.length : Int) = n + roomQ l ∧ (m.length : Int) ≤ 16000) ∧ okAll l) := fun h => by omega
            rw [if_neg e]
            simp (config := { maxSteps := 1000000 }) (disch := omega) only [push_cast, ↓reduceIte, Nat.reduceEqDiff, Nat.reduceAdd, Nat.reduceLT, Nat.reduceLeDiff, Nat.reduceBEq, Nat.reduceMul, Nat.reduceSub, Int.reduceToNat, Int.reduceEq, Int.reduceLT, Int.reduceLE, Int.reduceNeg, Int.reduceAdd, Int.reduceSub, Int.reduceMul, Try.f24, kr24, kp24_17, kp24_12, kp24_4, ow24_17, ow24_12, ow24_4, ty3, ty4, ty9, ty22, ty23, ty27, ty34, ty36, tb4, h1, ho, k1, k2, k4, k5.symm, h3]
          · have e : (((0 ≤ (n : Int) ∧ (n : Int) ≤ 4000) ∧ (m.length : Int) = n + roomQ l ∧ (m.length : Int) ≤ 16000) ∧ okAll l) := ⟨by omega, ho⟩
            rw [if_pos e]
            have htl : (m.take n).length = n := by rw [List.length_take]; omega
            have hl := rl_Leave4 q b c cm m l n (by omega) (by omega) (by omega) (by omega) hb l 0 rfl
            have k6 : (n : Int) ≤ m.length := by omega
            simp only [cast1, List.length_append, List.length_cons, List.length_nil, Nat.zero_add, Nat.add_zero, Int.natCast_zero, Int.natCast_add, Int.zero_add, ints_1, ints_0, ] at hl
            by_cases he : errA n l = 0
            · rw [if_pos he] at hl
              have hA := errA_mem he
              have hpl : ∀ p ∈ l, ∀ x ∈ plP p, 0 ≤ x ∧ x < n := fun p hp x hx => plI_bd (hb p hp).1 (by rw [plI_of (hA p hp)]; exact hx)
              have hl2 := rl_Leave12 q b c cm m l (by omega) (by omega) hb ho.2 n (by omega) (fun p hp x hx => by have := hpl p hp x hx; omega) l 0 m n rfl rfl (by have := roomN_eq l; omega)
              have sp : levQ m l m n = levQ m l (m.take n) n ++ m.drop n := by
                have := levQ_app m (m.drop n) l (m.take n) n (fun p hp x hx => by rw [htl]; exact hpl p hp x hx)
                rwa [List.take_append_drop] at this
              rw [sp] at hl2
              simp only [cast1, List.length_append, List.length_cons, List.length_nil, Nat.zero_add, Nat.add_zero, Int.natCast_zero, Int.natCast_add, Int.zero_add, ints_1, ints_0, ] at hl2
              have rw' : rowAt (ints (levQ m l (m.take n) n ++ m.drop n)) 0 n = ints (levQ m l (m.take n) n) := by
                unfold rowAt ints
                rw [List.drop_zero, List.map_append, List.take_append_of_le_length (by rw [List.length_map, levQ_len, htl]; omega), List.take_of_length_le (by rw [List.length_map, levQ_len, htl]; omega)]
              simp (config := { maxSteps := 1000000 }) (disch := omega) only [push_cast, ↓reduceIte, Nat.reduceEqDiff, Nat.reduceAdd, Nat.reduceLT, Nat.reduceLeDiff, Nat.reduceBEq, Nat.reduceMul, Nat.reduceSub, Int.reduceToNat, Int.reduceEq, Int.reduceLT, Int.reduceLE, Int.reduceNeg, Int.reduceAdd, Int.reduceSub, Int.reduceMul, Try.f24, kr24, kp24_17, kp24_12, kp24_4, ow24_17, ow24_12, ow24_4, ty3, ty4, ty9, ty22, ty23, ty27, ty34, ty36, tb4, h1, ho, k1, k2, k4, k5.symm, h3, hl, k6, Nat.sub_zero, he, hl2, levQ_len, htl, rw']
            · rw [if_neg he] at hl
              simp (config := { maxSteps := 1000000 }) (disch := omega) only [push_cast, ↓reduceIte, Nat.reduceEqDiff, Nat.reduceAdd, Nat.reduceLT, Nat.reduceLeDiff, Nat.reduceBEq, Nat.reduceMul, Nat.reduceSub, Int.reduceToNat, Int.reduceEq, Int.reduceLT, Int.reduceLE, Int.reduceNeg, Int.reduceAdd, Int.reduceSub, Int.reduceMul, Try.f24, kr24, kp24_17, kp24_12, kp24_4, ow24_17, ow24_12, ow24_4, ty3, ty4, ty9, ty22, ty23, ty27, ty34, ty36, tb4, h1, ho, k1, k2, k4, k5.symm, h3, hl, k6, Nat.sub_zero, he]
        · have e : ¬ (((0 ≤ (n : Int) ∧ (n : Int) ≤ 4000) ∧ (m.length : Int) = n + roomQ l ∧ (m.length : Int) ≤ 16000) ∧ okAll l) := fun h => k5 h.1.2.1
          rw [if_neg e]
          simp (config := { maxSteps := 1000000 }) (disch := omega) only [push_cast, ↓reduceIte, Nat.reduceEqDiff, Nat.reduceAdd, Nat.reduceLT, Nat.reduceLeDiff, Nat.reduceBEq, Nat.reduceMul, Nat.reduceSub, Int.reduceToNat, Int.reduceEq, Int.reduceLT, Int.reduceLE, Int.reduceNeg, Int.reduceAdd, Int.reduceSub, Int.reduceMul, Try.f24, kr24, kp24_17, kp24_12, kp24_4, ow24_17, ow24_12, ow24_4, ty3, ty4, ty9, ty22, ty23, ty27, ty34, ty36, tb4, h1, ho, k1, k2, k5, h3]
  · have e : ¬ (((0 ≤ n ∧ n ≤ 4000) ∧ (m.length : Int) = n + roomQ l ∧ (m.length : Int) ≤ 16000) ∧ okAll l) := fun h => ho h.2
    rw [if_neg e]
    simp (config := { maxSteps := 1000000 }) (disch := omega) only [push_cast, ↓reduceIte, Nat.reduceEqDiff, Nat.reduceAdd, Nat.reduceLT, Nat.reduceLeDiff, Nat.reduceBEq, Nat.reduceMul, Nat.reduceSub, Int.reduceToNat, Int.reduceEq, Int.reduceLT, Int.reduceLE, Int.reduceNeg, Int.reduceAdd, Int.reduceSub, Int.reduceMul, Try.f24, kr24, kp24_17, kp24_12, kp24_4, ow24_17, ow24_12, ow24_4, ty3, ty4, ty9, ty22, ty23, ty27, ty34, ty36, tb4, h1, ho]
end
end Go.Proofs.Ytochkebkfoophaa.Tev
