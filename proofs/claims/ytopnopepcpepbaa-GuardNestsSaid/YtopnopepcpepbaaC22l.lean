/- A nest's first bad turn: going through all turns by digits, and loop by loop, come to the same; and there is none exactly if the ends are within. Plain law, no program. -/
import Derived.Test.YtopnopepcpepbaaC22j
namespace Go.Proofs.Ytopnopepcpepbaa.Tev
open Go Go.RowKit Go.Proofs Go.Proofs.Ytopnopepcpepbaa.Q
set_option linter.unusedSectionVars false
set_option linter.unusedSimpArgs false
set_option linter.unusedVariables false
def dLoop {α : Type} (f : Nat → Option α) : Nat → Nat → Option α
  | 0, _ => none
  | d + 1, i => match f i with
    | some v => some v
    | none => dLoop f d (i + 1)
theorem dLoop_congr {α : Type} {f g : Nat → Option α} : ∀ (d i : Nat), (∀ k, k < d → f (i + k) = g (i + k)) → dLoop f d i = dLoop g d i
  | 0, _, _ => rfl
  | d + 1, i, h => by
    have h0 := h 0 (by omega)
    rw [Nat.add_zero] at h0
    have ih := dLoop_congr (f := f) (g := g) d (i + 1) fun k hk => by have := h (k + 1) (by omega); rw [show i + 1 + k = i + (k + 1) by omega]; exact this
    simp only [dLoop, h0, ih]
theorem dLoop_add {α : Type} (f : Nat → Option α) : ∀ (d e i : Nat), dLoop f (d + e) i = match dLoop f d i with | some v => some v | none => dLoop f e (i + d)
  | 0, e, i => by rw [Nat.zero_add]; rfl
  | d + 1, e, i => by
    rw [show d + 1 + e = (d + e) + 1 by omega]
    simp only [dLoop]
    cases f i with
    | some v => rfl
    | none => simp only; rw [dLoop_add f d e (i + 1), show i + 1 + d = i + (d + 1) by omega]
theorem dLoop_shift {α : Type} (f : Nat → Option α) : ∀ (d s i : Nat), dLoop f d (s + i) = dLoop (fun j => f (s + j)) d i
  | 0, _, _ => rfl
  | d + 1, s, i => by
    simp only [dLoop]
    rw [show s + i + 1 = s + (i + 1) by omega, dLoop_shift f d s (i + 1)]
theorem dLoop_mul {α : Type} (f : Nat → Option α) (P : Nat) : ∀ (d m : Nat), dLoop f (d * P) (m * P) = dLoop (fun m => dLoop (fun j => f (m * P + j)) P 0) d m
  | 0, m => by rw [Nat.zero_mul]; rfl
  | d + 1, m => by
    rw [show (d + 1) * P = P + d * P by rw [Nat.add_mul]; omega, dLoop_add]
    have e := dLoop_shift f P (m * P) 0
    rw [Nat.add_zero] at e
    have ih := dLoop_mul f P d (m + 1)
    rw [show m * P + P = (m + 1) * P by rw [Nat.add_mul]; omega, ih, e]
    simp only [dLoop]
theorem dLoop_map {α β : Type} (f : Nat → Option α) (g : α → β) : ∀ (d i : Nat), dLoop (fun j => (f j).map g) d i = (dLoop f d i).map g
  | 0, _ => rfl
  | d + 1, i => by
    simp only [dLoop]
    cases f i with
    | some v => rfl
    | none => simp only [Option.map_none]; exact dLoop_map f g d (i + 1)
theorem dLoop_none {α : Type} (f : Nat → Option α) : ∀ (d i : Nat), dLoop f d i = none ↔ ∀ k, k < d → f (i + k) = none
  | 0, i => by simp [dLoop]
  | d + 1, i => by
    simp only [dLoop]
    cases h : f i with
    | some v => simp only [reduceCtorEq, false_iff]; intro hk; have := hk 0 (by omega); rw [Nat.add_zero, h] at this; simp at this
    | none =>
      simp only
      rw [dLoop_none f d (i + 1)]
      constructor
      · intro hk k hk2
        cases k with
        | zero => exact h
        | succ k => have := hk k (by omega); rw [show i + (k + 1) = i + 1 + k by omega]; exact this
      · intro hk k hk2
        have := hk (k + 1) (by omega)
        rw [show i + 1 + k = i + (k + 1) by omega]; exact this
/-- Loop by loop, the first one outermost. -/
def dRec (low high : Int) : List TriP → List Int → Int → Option (List Int)
  | [], _, x => if x < low ∨ high < x then some [] else none
  | _ :: _, [], _ => none
  | t :: r, y :: p, x => dLoop (fun m => (dRec low high r p (x + y * (t.1 + (m : Int) * t.2.2))).map fun v => (t.1 + (m : Int) * t.2.2) :: v) (cntT t).toNat 0
theorem noneT_cons {t : TriP} {r : List TriP} (h : noneT (t :: r) = false) : 1 ≤ cntT t ∧ noneT r = false := by
  unfold noneT at h
  rw [List.any_cons, Bool.or_eq_false_iff] at h
  have h1 := of_decide_eq_false h.1
  have h2 : 0 ≤ cntT t := cnt_nonneg _ _ _
  exact ⟨by omega, h.2⟩
theorem dRec_noneT (low high : Int) : ∀ (r : List TriP) (p : List Int) (x : Int), noneT r = true → dRec low high r p x = none
  | [], p, x, h => by simp [noneT] at h
  | t :: r, [], x, h => rfl
  | t :: r, y :: p, x, h => by
    unfold noneT at h
    rw [List.any_cons, Bool.or_eq_true] at h
    rw [dRec]
    rcases h with h | h
    · rw [of_decide_eq_true h]; rfl
    · rw [dLoop_none]
      intro k _
      rw [dRec_noneT low high r p _ h]; rfl
theorem varsN_add : ∀ (r : List TriP) (m j : Int), noneT r = false → 0 ≤ m → 0 ≤ j → j < prodT r → varsN r (m * prodT r + j) = ((varsN r j).1, m)
  | [], m, j, _, h1, h2, h3 => by
    rw [prodT] at h3
    obtain rfl : j = 0 := by omega
    simp [prodT, varsN]
  | t :: r, m, j, hno, h1, h2, h3 => by
    obtain ⟨hc, hr⟩ := noneT_cons hno
    have hP := prodT_pos hr
    rw [prodT] at h3
    have d0 : 0 ≤ j / prodT r := Int.ediv_nonneg h2 (by omega)
    have d1 : j / prodT r < cntT t := Int.ediv_lt_of_lt_mul (by omega) h3
    have d2 := Int.emod_nonneg j (show prodT r ≠ 0 by omega)
    have d3 := Int.emod_lt_of_pos j (show 0 < prodT r by omega)
    have d4 := Int.emod_add_mul_ediv j (prodT r)
    have e1 : m * prodT (t :: r) + j = (m * cntT t + j / prodT r) * prodT r + j % prodT r := by
      rw [prodT, Int.add_mul, Int.mul_assoc, Int.mul_comm (j / prodT r)]; omega
    have mc : 0 ≤ m * cntT t := Int.mul_nonneg h1 (by omega)
    have i1 := varsN_add r (m * cntT t + j / prodT r) (j % prodT r) hr (by omega) d2 d3
    have i2 := varsN_add r (j / prodT r) (j % prodT r) hr d0 d2 d3
    rw [show j / prodT r * prodT r + j % prodT r = j by rw [Int.mul_comm]; omega] at i2
    rw [e1]
    have q1 : varsN (t :: r) ((m * cntT t + j / prodT r) * prodT r + j % prodT r) = ((t.1 + Int.tmod (m * cntT t + j / prodT r) (cntT t) * t.2.2) :: (varsN r (j % prodT r)).1, Int.tdiv (m * cntT t + j / prodT r) (cntT t)) := by
      show ((t.1 + Int.tmod (varsN r _).2 (cntT t) * t.2.2) :: (varsN r _).1, Int.tdiv (varsN r _).2 (cntT t)) = _
      rw [i1]
    have q2 : (varsN (t :: r) j).1 = (t.1 + Int.tmod (j / prodT r) (cntT t) * t.2.2) :: (varsN r (j % prodT r)).1 := by
      show (t.1 + Int.tmod (varsN r _).2 (cntT t) * t.2.2) :: (varsN r _).1 = _
      rw [i2]
    rw [q1, q2]
    have w1 : Int.tmod (m * cntT t + j / prodT r) (cntT t) = Int.tmod (j / prodT r) (cntT t) := by
      rw [Int.tmod_eq_emod_of_nonneg (by omega), Int.tmod_eq_emod_of_nonneg d0, Int.add_comm, Int.add_mul_emod_self_right]
    have w2 : Int.tdiv (m * cntT t + j / prodT r) (cntT t) = m := by
      rw [Int.tdiv_eq_ediv_of_nonneg (by omega), Int.add_comm, Int.add_mul_ediv_right _ _ (by omega), Int.ediv_eq_zero_of_lt d0 d1]; omega
    rw [w1, w2]
def badV (low high : Int) (r : List TriP) (p : List Int) (x : Int) (i : Nat) : Option (List Int) := if x + sumN p (varsN r i).1 < low ∨ high < x + sumN p (varsN r i).1 then some (varsN r i).1 else none
theorem dRec_eq (low high : Int) : ∀ (r : List TriP) (p : List Int) (x : Int), p.length = r.length → dLoop (badV low high r p x) (prodT r).toNat 0 = dRec low high r p x
  | [], p, x, hp => by
    obtain rfl : p = [] := List.length_eq_zero_iff.1 hp
    show dLoop _ 1 0 = _
    simp only [dLoop, badV, dRec, varsN, sumN, Int.add_zero]
    by_cases h : x < low ∨ high < x
    · rw [if_pos h]
    · rw [if_neg h]
  | t :: r, [], x, hp => by simp at hp
  | t :: r, y :: p, x, hp => by
    cases hno : noneT (t :: r) with
    | true => rw [dRec_noneT low high _ _ _ hno, prod_none hno]; rfl
    | false =>
      obtain ⟨hc, hr⟩ := noneT_cons hno
      have hP := prodT_pos hr
      obtain ⟨P, hP2⟩ : ∃ P : Nat, prodT r = P := ⟨(prodT r).toNat, by omega⟩
      obtain ⟨c, hc2⟩ : ∃ c : Nat, cntT t = c := ⟨(cntT t).toNat, by omega⟩
      have e : (prodT (t :: r)).toNat = c * P := by rw [prodT, hc2, hP2, ← Int.natCast_mul, Int.toNat_natCast]
      have e0 := dLoop_mul (badV low high (t :: r) (y :: p) x) P c 0
      rw [Nat.zero_mul] at e0
      rw [e, e0, dRec, hc2, Int.toNat_natCast]
      refine dLoop_congr c 0 fun m hm => ?_
      rw [Nat.zero_add]
      rw [← dRec_eq low high r p (x + y * (t.1 + (m : Int) * t.2.2)) (by simpa using hp), hP2, Int.toNat_natCast, ← dLoop_map]
      refine dLoop_congr P 0 fun j hj => ?_
      rw [Nat.zero_add]
      have v1 := varsN_add r m j hr (by omega) (by omega) (by omega)
      rw [hP2] at v1
      have v2 : (varsN (t :: r) ((m * P + j : Nat) : Int)).1 = (t.1 + (m : Int) * t.2.2) :: (varsN r j).1 := by
        show (t.1 + Int.tmod (varsN r _).2 (cntT t) * t.2.2) :: (varsN r _).1 = _
        rw [Int.natCast_add, Int.natCast_mul, v1]
        simp only
        rw [Int.tmod_eq_of_lt (by omega) (by omega)]
      unfold badV
      rw [v2]
      have eS : x + sumN (y :: p) ((t.1 + (m : Int) * t.2.2) :: (varsN r j).1) = x + y * (t.1 + (m : Int) * t.2.2) + sumN p (varsN r j).1 := by simp only [sumN]; omega
      simp only [eS]
      split <;> rfl
theorem findBad_dLoop (l : List TriP) (a : List Int) (x low high : Int) : ∀ (d i : Nat), (match findBad l a x low high d i with | some j => some (varsN l j).1 | none => none) = dLoop (badV low high l a x) d i
  | 0, _ => rfl
  | d + 1, i => by
    simp only [findBad, dLoop, badV]
    unfold sumV
    by_cases h : x + sumN a (varsN l i).1 < low ∨ high < x + sumN a (varsN l i).1
    · simp only [if_pos h]
    · simp only [if_neg h]; exact findBad_dLoop l a x low high d (i + 1)
theorem lin_bd {D m c : Int} (h0 : 0 ≤ m) (h1 : m ≤ c) : (0 ≤ D → 0 ≤ m * D ∧ m * D ≤ c * D) ∧ (D ≤ 0 → m * D ≤ 0 ∧ c * D ≤ m * D) :=
  ⟨fun h => ⟨Int.mul_nonneg h0 h, Int.mul_le_mul_of_nonneg_right h1 h⟩, fun h => ⟨Int.mul_nonpos_of_nonneg_of_nonpos h0 h, Int.mul_le_mul_of_nonpos_right h1 h⟩⟩
theorem dRec_none (low high : Int) : ∀ (r : List TriP) (p : List Int) (x : Int), noneT r = false → p.length = r.length → (dRec low high r p x = none ↔ low ≤ x + leastN r p ∧ x + greatN r p ≤ high)
  | [], p, x, _, hp => by
    simp only [dRec, leastN, greatN, Int.add_zero]
    by_cases h : x < low ∨ high < x
    · rw [if_pos h]; simp only [reduceCtorEq, false_iff]; omega
    · rw [if_neg h]; simp only [true_iff]; omega
  | t :: r, [], x, _, hp => by simp at hp
  | t :: r, y :: p, x, hno, hp => by
    obtain ⟨hc, hr⟩ := noneT_cons hno
    rw [dRec, dLoop_none]
    have key : ∀ m : Nat, ((fun m : Nat => (dRec low high r p (x + y * (t.1 + (m : Int) * t.2.2))).map fun v => (t.1 + (m : Int) * t.2.2) :: v) (0 + m) = none) ↔ (low ≤ x + y * (t.1 + (m : Int) * t.2.2) + leastN r p ∧ x + y * (t.1 + (m : Int) * t.2.2) + greatN r p ≤ high) := by
      intro m
      rw [Nat.zero_add, ← dRec_none low high r p _ hr (by simpa using hp)]
      simp only [Option.map_eq_none_iff]
    have ex : ∀ m : Int, y * (t.1 + m * t.2.2) = y * t.1 + m * (y * t.2.2) := by
      intro m
      rw [Int.mul_add, ← Int.mul_assoc, Int.mul_comm y m, Int.mul_assoc]
    simp only [leastN, greatN]
    have eE : y * endT t = y * t.1 + (cntT t - 1) * (y * t.2.2) := by unfold endT; exact ex _
    rw [eE]
    generalize y * t.2.2 = D at *
    constructor
    · intro h
      have a1 := (key 0).1 (h 0 (by omega))
      have a2 := (key ((cntT t).toNat - 1)).1 (h ((cntT t).toNat - 1) (by omega))
      rw [ex] at a1 a2
      rw [show (((cntT t).toNat - 1 : Nat) : Int) = cntT t - 1 by omega] at a2
      rw [show ((0 : Nat) : Int) = 0 from rfl, Int.zero_mul] at a1
      unfold mn mx
      split <;> split <;> omega
    · intro h m hm
      rw [key m, ex]
      have hb := lin_bd (D := D) (m := m) (c := cntT t - 1) (by omega) (by omega)
      unfold mn mx at h
      rcases Int.le_total 0 D with hD | hD
      · have := hb.1 hD
        split at h <;> split at h <;> omega
      · have := hb.2 hD
        split at h <;> split at h <;> omega
/-- The variables at the first bad turn. -/
theorem firstR_dRec {l : List TriP} {a : List Int} {x low high : Int} (he : nestE l a x low high = 0) : firstR l a x low high = (dRec low high l a x).getD [] := by
  obtain ⟨k1, k2, k3, k4⟩ := nestE_ok he
  unfold firstR
  rw [if_pos he, ← dRec_eq low high l a x k2.2.2.1, ← findBad_dLoop]
  cases findBad l a x low high (prodT l).toNat 0 <;> rfl
theorem dRec_len (low high : Int) : ∀ (r : List TriP) (p : List Int) (x : Int) (v : List Int), dRec low high r p x = some v → v.length = r.length
  | [], p, x, v, h => by
    simp only [dRec] at h
    split at h
    · obtain rfl := Option.some.inj h; rfl
    · simp at h
  | t :: r, [], x, v, h => by simp [dRec] at h
  | t :: r, y :: p, x, v, h => by
    rw [dRec] at h
    have : ∀ (d i : Nat), dLoop (fun m => (dRec low high r p (x + y * (t.1 + (m : Int) * t.2.2))).map fun v => (t.1 + (m : Int) * t.2.2) :: v) d i = some v → v.length = r.length + 1 := by
      intro d
      induction d with
      | zero => intro i h; simp [dLoop] at h
      | succ d ih =>
        intro i h
        simp only [dLoop] at h
        cases hq : dRec low high r p (x + y * (t.1 + (i : Int) * t.2.2)) with
        | none => rw [hq] at h; exact ih (i + 1) h
        | some w =>
          rw [hq] at h
          simp only [Option.map_some, Option.some.injEq] at h
          rw [← h, List.length_cons, dRec_len low high r p _ w hq]
    rw [List.length_cons]; exact this _ _ h
theorem safe_iff {l : List TriP} {a : List Int} {x low high : Int} (he : nestE l a x low high = 0) : safeN l a x low high = decide ((firstR l a x low high).length = 0) := by
  obtain ⟨k1, k2, k3, k4⟩ := nestE_ok he
  rw [firstR_dRec he]
  unfold safeN
  cases hno : noneT l with
  | true => rw [dRec_noneT low high _ _ _ hno]; rfl
  | false =>
    have h := dRec_none low high l a x hno k2.2.2.1
    rw [Bool.false_or, ← Bool.decide_and, Bool.eq_iff_iff, decide_eq_true_iff, decide_eq_true_iff, ← h]
    cases hd : dRec low high l a x with
    | none => simp
    | some v =>
      have := dRec_len low high l a x v hd
      simp only [Option.getD_some, reduceCtorEq, false_iff]; omega
theorem firstR_bad {l : List TriP} {a : List Int} {x low high : Int} : (firstR l a x low high).length = 0 ∨ ((firstR l a x low high).length = l.length ∧ (x + sumN a (firstR l a x low high) < low ∨ high < x + sumN a (firstR l a x low high))) := by
  unfold firstR
  split
  · have : ∀ (d i j : Nat), findBad l a x low high d i = some j → sumV l a x j < low ∨ high < sumV l a x j := by
      intro d
      induction d with
      | zero => intro i j h; simp [findBad] at h
      | succ d ih =>
        intro i j h
        rw [findBad] at h
        split at h
        · obtain rfl := Option.some.inj h; assumption
        · exact ih _ _ h
    cases hf : findBad l a x low high (prodT l).toNat 0 with
    | none => exact .inl rfl
    | some j => exact .inr ⟨varsN_len l j, this _ _ _ hf⟩
  · exact .inl rfl
end Go.Proofs.Ytopnopepcpepbaa.Tev
