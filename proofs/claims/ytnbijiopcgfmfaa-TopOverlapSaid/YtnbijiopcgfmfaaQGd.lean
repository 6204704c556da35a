/- The guard's arithmetic in plain numbers. -/
import Derived.Test.YtnbijiopcgfmfaaQAr
set_option linter.unusedVariables false
set_option linter.unusedSimpArgs false
set_option linter.unusedSectionVars false
namespace Go.Proofs.Ytnbijiopcgfmfaa.Q
open Go
def near (n : Int) : Prop := -1000000 ≤ n ∧ n ≤ 1000000
instance (n : Int) : Decidable (near n) := by unfold near; infer_instance
def allN (l : List Int) : Prop := ∀ x ∈ l, near x
instance (l : List Int) : Decidable (allN l) := by unfold allN; infer_instance
/-- The error of an access. -/
def askE (lo hi st : Int) (l : List Int) : Int := if st = 0 then 90 else if allN [lo, hi, st] then (if allN l then 0 else 2) else 2
theorem askE_ok {lo hi st : Int} {l : List Int} (h : askE lo hi st l = 0) : st ≠ 0 ∧ near lo ∧ near hi ∧ near st ∧ ∀ x ∈ l, near x := by
  unfold askE at h
  by_cases h0 : st = 0
  · rw [if_pos h0] at h; omega
  · rw [if_neg h0] at h
    by_cases h1 : allN [lo, hi, st]
    · rw [if_pos h1] at h
      by_cases h2 : allN l
      · exact ⟨h0, h1 lo (by simp), h1 hi (by simp), h1 st (by simp), h2⟩
      · rw [if_neg h2] at h; omega
    · rw [if_neg h1] at h; omega
theorem okT_near {lo hi st : Int} (h0 : st ≠ 0) (h1 : near lo) (h2 : near hi) (h3 : near st) : okT lo hi st := by
  unfold near at *
  exact ⟨by omega, by omega, by omega, h0⟩
/-- The value of an access at turn m. -/
def val (a b lo st m : Int) : Int := a * (lo + m * st) + b

/-- Which turns are safe: those from one on, up to another one. -/
structure PartSpec (a b lo st low high n f t : Int) : Prop where
  f0 : 0 ≤ f
  tn : t ≤ n
  ft : f < t ∨ (f = 0 ∧ t = 0)
  iff : ∀ m, 0 ≤ m → m < n → ((low ≤ val a b lo st m ∧ val a b lo st m ≤ high) ↔ (f ≤ m ∧ m < t))

theorem val_step (a b lo st m : Int) : val a b lo st m = (a * lo + b) + m * (a * st) := by
  unfold val
  rw [Int.mul_add, show a * (m * st) = m * (a * st) from by rw [← Int.mul_assoc, Int.mul_comm a m, Int.mul_assoc]]
  omega

def floorQ (a b : Int) : Int := if Int.tmod a b < 0 then Int.tdiv a b - 1 else Int.tdiv a b
theorem floorQ_spec {a b : Int} (hb : 0 < b) (h1 : -9000000000000 ≤ a) (h2 : a ≤ 9000000000000) : floorQ a b * b ≤ a ∧ a < floorQ a b * b + b ∧ -9000000000001 ≤ floorQ a b ∧ floorQ a b ≤ 9000000000001 := by
  unfold floorQ
  have e : (Int.tdiv a b).natAbs ≤ a.natAbs := by rw [Int.natAbs_tdiv]; exact Nat.div_le_self _ _
  have hd := Int.tmod_add_mul_tdiv a b
  have hm : b * Int.tdiv a b = Int.tdiv a b * b := Int.mul_comm _ _
  have hlt := Int.natAbs_tmod a b
  have hlt2 : (Int.tmod a b).natAbs < b.natAbs := by rw [hlt]; exact Nat.mod_lt _ (by omega)
  by_cases hneg : Int.tmod a b < 0
  · rw [if_pos hneg, Int.sub_mul, Int.one_mul]
    omega
  · rw [if_neg hneg]
    omega
def ceilQ (a b : Int) : Int := -floorQ (-a) b
theorem ceilQ_spec {a b : Int} (hb : 0 < b) (h1 : -9000000000000 ≤ a) (h2 : a ≤ 9000000000000) : a ≤ ceilQ a b * b ∧ ceilQ a b * b < a + b ∧ -9000000000001 ≤ ceilQ a b ∧ ceilQ a b ≤ 9000000000001 := by
  obtain ⟨h3, h4, h5, h6⟩ := floorQ_spec (a := -a) hb (by omega) (by omega)
  unfold ceilQ
  rw [Int.neg_mul]
  omega
/-- The rising way: first + m * step between low and high. -/
def risQ (n first step low high : Int) : Int × Int := if mn n (floorQ (high - first) step + 1) ≤ mx 0 (ceilQ (low - first) step) then (0, 0) else (mx 0 (ceilQ (low - first) step), mn n (floorQ (high - first) step + 1))
theorem risQ_spec {n first step low high : Int} (hs : 0 < step) (hf1 : -4000000000000 ≤ first) (hf2 : first ≤ 4000000000000) (hl1 : -4000000000000 ≤ low) (hl2 : low ≤ 4000000000000) (hh1 : -4000000000000 ≤ high) (hh2 : high ≤ 4000000000000) (hn0 : 0 ≤ n) (hn : n ≤ 4000000000000) :
    ∃ f t, risQ n first step low high = (f, t) ∧ 0 ≤ f ∧ t ≤ n ∧ (f < t ∨ (f = 0 ∧ t = 0)) ∧ ∀ m, 0 ≤ m → m < n → ((low ≤ first + m * step ∧ first + m * step ≤ high) ↔ (f ≤ m ∧ m < t)) := by
  unfold risQ
  obtain ⟨c1, c2, c3, c4⟩ := ceilQ_spec (a := low - first) hs (by omega) (by omega)
  obtain ⟨d1, d2, d3, d4⟩ := floorQ_spec (a := high - first) hs (by omega) (by omega)
  generalize ceilQ (low - first) step = c at *
  generalize floorQ (high - first) step = d at *
  have key : ∀ m, ((low ≤ first + m * step ∧ first + m * step ≤ high) ↔ (c ≤ m ∧ m ≤ d)) := by
    intro m
    constructor
    · rintro ⟨h1, h2⟩
      constructor
      · refine Decidable.byContradiction fun hx => ?_
        have := Int.mul_le_mul_of_nonneg_right (show m ≤ c - 1 by omega) (show 0 ≤ step by omega)
        rw [Int.sub_mul, Int.one_mul] at this
        omega
      · refine Decidable.byContradiction fun hx => ?_
        have := Int.mul_le_mul_of_nonneg_right (show d + 1 ≤ m by omega) (show 0 ≤ step by omega)
        rw [Int.add_mul, Int.one_mul] at this
        omega
    · rintro ⟨h1, h2⟩
      have e1 := Int.mul_le_mul_of_nonneg_right h1 (show 0 ≤ step by omega)
      have e2 := Int.mul_le_mul_of_nonneg_right h2 (show 0 ≤ step by omega)
      omega
  have hmx : mx 0 c = if 0 < c then c else 0 := rfl
  have hmn : mn n (d + 1) = if d + 1 < n then d + 1 else n := rfl
  by_cases hge : mn n (d + 1) ≤ mx 0 c
  · rw [if_pos hge]
    refine ⟨0, 0, rfl, by omega, hn0, .inr ⟨rfl, rfl⟩, fun m h0 h1 => (key m).trans ?_⟩
    rw [hmx, hmn] at hge
    split at hge <;> split at hge <;> omega
  · rw [if_neg hge]
    refine ⟨_, _, rfl, ?_⟩
    rw [hmx, hmn] at hge ⊢
    refine ⟨?_, ?_, ?_, fun m h0 h1 => (key m).trans ?_⟩ <;> (split at hge <;> split at hge <;> omega)
def partQ (a b lo st low high n : Int) : Int × Int :=
  if a * st = 0 then (if a * lo + b < low then (0, 0) else if high < a * lo + b then (0, 0) else (0, n))
  else if a * st < 0 then risQ n (-(a * lo + b)) (-(a * st)) (-high) (-low) else risQ n (a * lo + b) (a * st) low high
theorem mulN {a b : Int} (h1 : near a) (h2 : near b) : -1000000000000 ≤ a * b ∧ a * b ≤ 1000000000000 := by
  unfold near at h1 h2
  have := mul_bd (A := 1000000) (B := 1000000) h1.1 h1.2 h2.1 h2.2
  omega
theorem ask4 {a b low high lo hi st : Int} (h : askE lo hi st [a, b, low, high] = 0) : st ≠ 0 ∧ near lo ∧ near hi ∧ near st ∧ near a ∧ near b ∧ near low ∧ near high := by
  obtain ⟨h1, h2, h3, h4, h5⟩ := askE_ok h
  exact ⟨h1, h2, h3, h4, h5 a (by simp), h5 b (by simp), h5 low (by simp), h5 high (by simp)⟩
theorem cnt_near {lo hi st : Int} (hs : st ≠ 0) (n1 : near lo) (n2 : near hi) : 0 ≤ cnt lo hi st ∧ cnt lo hi st ≤ 2000001 := by
  have hn0 := cnt_nonneg lo hi st
  have hn1 := cnt_le (lo := lo) (hi := hi) (D := 2000000) hs (by unfold near at *; omega) (by unfold near at *; omega)
  omega
theorem partQ_spec {a b lo hi st low high : Int} (h : askE lo hi st [a, b, low, high] = 0) : ∃ f t, partQ a b lo st low high (cnt lo hi st) = (f, t) ∧ PartSpec a b lo st low high (cnt lo hi st) f t := by
  obtain ⟨hs, n1, n2, n3, n4, n5, n6, n7⟩ := ask4 h
  have m1 := mulN n4 n1
  have m2 := mulN n4 n3
  obtain ⟨hn0, hn1⟩ := cnt_near hs n1 n2
  unfold near at n4 n5 n6 n7
  have hv := val_step a b lo st
  unfold partQ
  by_cases h0 : a * st = 0
  · rw [if_pos h0]
    by_cases hl : a * lo + b < low
    · rw [if_pos hl]
      refine ⟨0, 0, rfl, ⟨by omega, by omega, .inr ⟨rfl, rfl⟩, fun m h1 h2 => ?_⟩⟩
      rw [hv, h0, Int.mul_zero]
      omega
    · rw [if_neg hl]
      by_cases hh : high < a * lo + b
      · rw [if_pos hh]
        refine ⟨0, 0, rfl, ⟨by omega, by omega, .inr ⟨rfl, rfl⟩, fun m h1 h2 => ?_⟩⟩
        rw [hv, h0, Int.mul_zero]
        omega
      · rw [if_neg hh]
        refine ⟨0, _, rfl, ⟨by omega, by omega, by omega, fun m h1 h2 => ?_⟩⟩
        rw [hv, h0, Int.mul_zero]
        omega
  · rw [if_neg h0]
    by_cases hneg : a * st < 0
    · rw [if_pos hneg]
      obtain ⟨f, t, e1, e2, e3, e4, e5⟩ := risQ_spec (n := cnt lo hi st) (first := -(a * lo + b)) (step := -(a * st)) (low := -high) (high := -low) (by omega) (by omega) (by omega) (by omega) (by omega) (by omega) (by omega) hn0 (by omega)
      refine ⟨f, t, e1, ⟨e2, e3, e4, fun m h1 h2 => Iff.trans ?_ (e5 m h1 h2)⟩⟩
      rw [hv, Int.mul_neg]
      omega
    · rw [if_neg hneg]
      obtain ⟨f, t, e1, e2, e3, e4, e5⟩ := risQ_spec (n := cnt lo hi st) (first := a * lo + b) (step := a * st) (low := low) (high := high) (by omega) (by omega) (by omega) (by omega) (by omega) (by omega) (by omega) hn0 (by omega)
      refine ⟨f, t, e1, ⟨e2, e3, e4, fun m h1 h2 => Iff.trans ?_ (e5 m h1 h2)⟩⟩
      rw [hv]

def firstOf (n f t : Int) : Int := if f > 0 ∨ (t = 0 ∧ n > 0) then 0 else if t < n then t else -1
/-- The members of a triple, n of them. -/
def tl (lo st : Int) (n : Nat) : List Int := (List.range n).map fun (m : Nat) => lo + (m : Int) * st
theorem tl_len (lo st : Int) (n : Nat) : (tl lo st n).length = n := by simp [tl]
theorem tl_succ (lo st : Int) (n : Nat) : tl lo st (n + 1) = tl lo st n ++ [lo + (n : Int) * st] := by simp [tl, List.range_succ]
theorem tl_add (lo st : Int) (i : Nat) : ∀ j, tl lo st (i + j) = tl lo st i ++ tl (lo + i * st) st j
  | 0 => by simp [tl]
  | j + 1 => by
    rw [← Nat.add_assoc, tl_succ, tl_succ, tl_add lo st i j, List.append_assoc]
    congr 3
    rw [Int.natCast_add, Int.add_mul]; omega
theorem tl_get {lo st : Int} {n i : Nat} (h : i < n) : (tl lo st n)[i]? = some (lo + i * st) := by simp [tl, h]
/-- A turn's member is within the end exactly if the turn is one. -/
theorem in_iff {lo hi st j : Int} (h0 : 0 ≤ j) : (0 < st → (lo + j * st ≤ hi ↔ j < cnt lo hi st)) ∧ (st < 0 → (lo + j * st ≥ hi ↔ j < cnt lo hi st)) := by
  constructor
  · intro hp
    have h := cnt_pos (lo := lo) (hi := hi) hp
    constructor
    · intro hle
      rcases Int.lt_or_le j (cnt lo hi st) with h1 | h1
      · exact h1
      · have := Int.mul_le_mul_of_nonneg_right h1 (show 0 ≤ st by omega); omega
    · intro hlt
      exact ((cnt_in (by omega) h0 hlt).1 hp).2
  · intro hn
    have h := cnt_neg' (lo := lo) (hi := hi) hn
    constructor
    · intro hle
      rcases Int.lt_or_le j (cnt lo hi st) with h1 | h1
      · exact h1
      · have := Int.mul_le_mul_of_nonneg_right h1 (show 0 ≤ -st by omega)
        rw [Int.mul_neg, Int.mul_neg] at this; omega
    · intro hlt
      exact ((cnt_in (by omega) h0 hlt).2 hn).2

theorem cnt_piece {lo hi st p q : Int} (hs : st ≠ 0) (h0 : p < q) : cnt (lo + p * st) (lo + (q - 1) * st) st = q - p := by
  unfold cnt
  have e : lo + (q - 1) * st - (lo + p * st) + st = (q - p) * st := by
    rw [Int.sub_mul, Int.sub_mul]; omega
  rw [e, Int.mul_tdiv_cancel _ hs]
  unfold mx; split <;> omega
theorem near_turn {lo hi st m : Int} (hs : st ≠ 0) (n1 : near lo) (n2 : near hi) (h0 : 0 ≤ m) (h1 : m < cnt lo hi st) : near (lo + m * st) := by
  have hin := cnt_in hs h0 h1
  unfold near at *
  rcases Int.lt_or_gt_of_ne hs with hn | hp
  · have := hin.2 hn; omega
  · have := hin.1 hp; omega
/-- The first turn below i that is not safe. -/
def fb (f t i : Int) : Int := if i ≤ 0 then -1 else if f > 0 ∨ t = 0 then 0 else if i ≤ t then -1 else t
theorem fb_step {f t i n a b lo st low high : Int} (hP : PartSpec a b lo st low high n f t) (h0 : 0 ≤ i) (h1 : i < n) :
    fb f t (i + 1) = if (f ≤ i ∧ i < t) then fb f t i else if fb f t i < 0 then i else fb f t i := by
  have p1 := hP.f0; have p2 := hP.tn; have p3 := hP.ft
  unfold fb
  split <;> (try split) <;> (try split) <;> (try split) <;> (try split) <;> (try split) <;> omega
theorem fb_last {f t n a b lo st low high : Int} (hn : 0 ≤ n) (hP : PartSpec a b lo st low high n f t) : fb f t n = firstOf n f t := by
  have p1 := hP.f0; have p2 := hP.tn; have p3 := hP.ft
  unfold fb firstOf
  split <;> (try split) <;> (try split) <;> (try split) <;> (try split) <;> omega

end Go.Proofs.Ytnbijiopcgfmfaa.Q
