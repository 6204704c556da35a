/- What the guard's functions and the document's say, in plain numbers. -/
import Derived.Test.YtopnopepcpepbaaArith
import Derived.Test.YtopnopepcpepbaaPGx2
import Derived.Test.YtopnopepcpepbaaPGx3
import Derived.Test.YtopnopepcpepbaaPGx6
set_option linter.unusedVariables false
namespace Go.Proofs.Ytopnopepcpepbaa.Pure
open Go.RowKit Go.Proofs.YtopnopepcpepbaaW.PrintWords Go.Proofs.YtopnopepcpepbaaW.PrintMore Go.Proofs.Ytopnopepcpepbaa.PG Go.Proofs.Ytopnopepcpepbaa.Ar

def near (n : Int) : Prop := -1000000 ≤ n ∧ n ≤ 1000000
instance (n : Int) : Decidable (near n) := by unfold near; exact inferInstance

theorem rd_at {l : List Int} {i : Int} (h0 : 0 ≤ i) (h1 : i < l.length) : l[i.toNat]? = some (rd l i) := by
  unfold rd
  rw [List.getD_eq_getElem?_getD, List.getElem?_eq_getElem (show i.toNat < l.length by omega)]
  rfl

theorem idx_one (l : List Int) (hl : (l.length : Int) ≤ 9223372036854775806) : ∀ (d k : Nat) (i : Int), 0 ≤ i → i ≤ l.length → (l.length : Int) - i = d → d < k →
    ∃ r, slices_IndexFunc_50_g45.l0 k l l.length i = some r ∧ (r ≥ 0 ↔ ∃ j : Nat, i ≤ j ∧ j < l.length ∧ ¬ near (rd l j)) := by
  intro d
  induction d with
  | zero =>
    intro k i h0 h1 hd hk
    obtain ⟨k, rfl⟩ : ∃ m, k = m + 1 := ⟨k - 1, by omega⟩
    refine ⟨-1, by simp only [slices_IndexFunc_50_g45.l0]; rw [if_neg (by omega)], ?_⟩
    constructor
    · intro h; omega
    · rintro ⟨j, h1, h2, _⟩; omega
  | succ d ih =>
    intro k i h0 h1 hd hk
    obtain ⟨k, rfl⟩ : ∃ m, k = m + 1 := ⟨k - 1, by omega⟩
    have hlt : i < (l.length : Int) := by omega
    obtain ⟨b, hb, hbn⟩ : ∃ b, guard_isNumber_1.f (rd l i) = some b ∧ (b = true ↔ ¬ near (rd l i)) := by
      unfold guard_isNumber_1.f near
      split
      · exact ⟨true, rfl, by simp; omega⟩
      · exact ⟨_, rfl, by simp; omega⟩
    simp only [slices_IndexFunc_50_g45.l0]
    rw [if_pos hlt, if_pos h0, if_pos hlt, hb]
    simp only [Option.bind_some]
    by_cases hn : near (rd l i)
    · have hbf : b = false := by cases b <;> simp_all
      subst hbf
      rw [if_neg (by simp), w64 (by omega) (by omega)]
      obtain ⟨r, hr, hi⟩ := ih k (i + 1) (by omega) (by omega) (by omega) (by omega)
      refine ⟨r, hr, hi.trans ⟨?_, ?_⟩⟩
      · rintro ⟨j, h2, h3, h4⟩
        exact ⟨j, by omega, h3, h4⟩
      · rintro ⟨j, h2, h3, h4⟩
        refine ⟨j, ?_, h3, h4⟩
        rcases Int.lt_or_eq_of_le h2 with h5 | h5
        · omega
        · exact absurd (h5 ▸ hn) h4
    · rw [if_pos (hbn.2 hn)]
      refine ⟨i, rfl, ⟨fun _ => ⟨i.toNat, by omega, by omega, ?_⟩, fun _ => h0⟩⟩
      rw [show ((i.toNat : Nat) : Int) = i from by omega]
      exact hn

def allNear (l : List Int) : Bool := decide (∀ x ∈ l, near x)
theorem allNear_iff (l : List Int) : allNear l = true ↔ ∀ j : Nat, j < l.length → near (rd l j) := by
  unfold allNear
  rw [decide_eq_true_eq]
  constructor
  · intro h j hj
    have := rd_at (l := l) (i := j) (by omega) (by omega)
    exact h _ (List.mem_of_getElem? this)
  · intro h x hx
    obtain ⟨j, hj⟩ := List.getElem?_of_mem hx
    have hlt := (List.getElem?_eq_some_iff.1 hj).1
    have := rd_at (l := l) (i := j) (by omega) (by omega)
    rw [show ((j : Int)).toNat = j from by omega, hj] at this
    rw [Option.some.inj this]
    exact h j hlt

theorem isNumber_f (l : List Int) (hl : (l.length : Int) ≤ 9223372036854775806) (k : Nat) (hk : l.length < k) : guard_isNumber.f k l = some (allNear l) := by
  unfold guard_isNumber.f slices_ContainsFunc_44_g45.f slices_IndexFunc_50_g45.f
  obtain ⟨r, hr, hi⟩ := idx_one l hl l.length k 0 (by omega) (by omega) (by omega) hk
  rw [hr]
  simp only [Option.bind_some]
  congr 1
  by_cases h : r ≥ 0
  · obtain ⟨j, _, h2, h3⟩ := hi.1 h
    have : allNear l = false := by
      cases e : allNear l with
      | false => rfl
      | true => exact absurd ((allNear_iff l).1 e j h2) h3
    rw [this]
    simp [h]
  · have : allNear l = true := by
      rw [allNear_iff]
      intro j hj
      exact Decidable.byContradiction fun hc => h (hi.2 ⟨j, by omega, hj, hc⟩)
    rw [this]
    simp
    omega

theorem near_loop (l : List Int) (hl : (l.length : Int) ≤ 9223372036854775806) : ∀ (d k : Nat) (i : Int), 0 ≤ i → i ≤ l.length → (l.length : Int) - i = d → d < k →
    ∃ r, quadratref22_near.l0 k l i = some r ∧ (r = true ↔ ∀ j : Nat, i ≤ j → j < l.length → near (rd l j)) := by
  intro d
  induction d with
  | zero =>
    intro k i h0 h1 hd hk
    obtain ⟨k, rfl⟩ : ∃ m, k = m + 1 := ⟨k - 1, by omega⟩
    exact ⟨true, by simp only [quadratref22_near.l0]; rw [if_neg (by omega)], by simp; intro j h1 h2; omega⟩
  | succ d ih =>
    intro k i h0 h1 hd hk
    obtain ⟨k, rfl⟩ : ∃ m, k = m + 1 := ⟨k - 1, by omega⟩
    have hlt : i < (l.length : Int) := by omega
    by_cases hn : near (rd l i)
    · obtain ⟨r, hr, hi⟩ := ih k (i + 1) (by omega) (by omega) (by omega) (by omega)
      refine ⟨r, ?_, hi.trans ⟨fun h j h2 h3 => ?_, fun h j h2 h3 => h j (by omega) h3⟩⟩
      · simp only [quadratref22_near.l0]
        unfold near at hn
        rw [if_pos hlt, if_pos h0, if_neg (by omega), if_neg (by omega), w64 (by omega) (by omega)]
        exact hr
      · rcases Int.lt_or_eq_of_le h2 with h5 | h5
        · exact h j (by omega) h3
        · rw [← h5]; exact hn
    · refine ⟨false, ?_, by
        simp
        exact ⟨i.toNat, by omega, by omega, by rw [show ((i.toNat : Nat) : Int) = i from by omega]; exact hn⟩⟩
      simp only [quadratref22_near.l0]
      unfold near at hn
      rw [if_pos hlt, if_pos h0]
      by_cases h2 : rd l i < -1000000
      · rw [if_pos h2]
      · rw [if_neg h2, if_pos (by omega)]

theorem near_f (l : List Int) (hl : (l.length : Int) ≤ 9223372036854775806) (k : Nat) (hk : l.length < k) : quadratref22_near.f k l = some (allNear l) := by
  unfold quadratref22_near.f
  obtain ⟨r, hr, hi⟩ := near_loop l hl l.length k 0 (by omega) (by omega) (by omega) hk
  rw [hr]
  congr 1
  rw [Bool.eq_iff_iff, hi, allNear_iff]
  exact ⟨fun h j hj => h j (by omega) hj, fun h j _ hj => h j hj⟩

/-- What asked answers. -/
def askE (lo hi st : Int) (l : List Int) : Int := if st = 0 then 90 else if allNear [lo, hi, st] = true ∧ allNear l = true then 0 else 2

theorem asked_g (lo hi st : Int) (l : List Int) (hl : l.length ≤ 100) (k : Nat) (hk : 200 ≤ k) : guard_asked.f k lo hi st l = some (askE lo hi st l) := by
  unfold guard_asked.f askE
  rw [isNumber_f [lo, hi, st] (by simp) k (by simp; omega), isNumber_f l (by omega) k (by omega)]
  simp only [Option.bind_some]
  split
  · rfl
  · cases allNear [lo, hi, st] <;> cases allNear l <;> simp

theorem asked_r (lo hi st : Int) (l : List Int) (hl : l.length ≤ 100) (k : Nat) (hk : 200 ≤ k) : quadratref22_asked.f k lo hi st l = some (askE lo hi st l) := by
  unfold quadratref22_asked.f askE
  rw [near_f [lo, hi, st] (by simp) k (by simp; omega), near_f l (by omega) k (by omega)]
  simp only [Option.bind_some]
  split
  · rfl
  · cases allNear [lo, hi, st] <;> cases allNear l <;> simp

theorem askE_ok {lo hi st : Int} {l : List Int} (h : askE lo hi st l = 0) : st ≠ 0 ∧ near lo ∧ near hi ∧ near st ∧ ∀ x ∈ l, near x := by
  unfold askE at h
  split at h
  · omega
  · rename_i hs
    split at h
    · rename_i h2
      obtain ⟨h2, h3⟩ := h2
      unfold allNear at h2 h3
      rw [decide_eq_true_eq] at h2 h3
      exact ⟨hs, h2 lo (by simp), h2 hi (by simp), h2 st (by simp), h3⟩
    · omega

theorem turns_g {lo hi st : Int} (hs : st ≠ 0) (h1 : near lo) (h2 : near hi) (h3 : near st) : guard_turns.f lo hi st = some (cnt lo hi st) := by
  unfold near at h1 h2 h3
  unfold guard_turns.f section_Count.f section_isNumber.f cnt
  rw [if_pos (by omega), if_pos (by omega), if_pos (by omega)]
  simp only [Option.bind_some]
  rw [if_pos (by simp; omega), if_pos (by simp; omega), if_pos (by simp; omega), if_neg hs]
  simp only [Option.bind_some]
  rw [w64 (x := hi - lo) (by omega) (by omega), w64 (x := hi - lo + st) (by omega) (by omega)]
  have : -3000001 ≤ Int.tdiv (hi - lo + st) st ∧ Int.tdiv (hi - lo + st) st ≤ 3000001 := by
    have e : (Int.tdiv (hi - lo + st) st).natAbs ≤ (hi - lo + st).natAbs := by rw [Int.natAbs_tdiv]; exact Nat.div_le_self _ _
    omega
  rw [w64 (by omega) (by omega)]

theorem turns_r {lo hi st : Int} (hs : st ≠ 0) (h1 : near lo) (h2 : near hi) (h3 : near st) : quadratref22_turns.f lo hi st = some (cnt lo hi st) := by
  unfold near at h1 h2 h3
  unfold quadratref22_turns.f cnt
  rw [if_neg hs, w64 (x := hi - lo) (by omega) (by omega), w64 (x := hi - lo + st) (by omega) (by omega)]
  have : -3000001 ≤ Int.tdiv (hi - lo + st) st ∧ Int.tdiv (hi - lo + st) st ≤ 3000001 := by
    have e : (Int.tdiv (hi - lo + st) st).natAbs ≤ (hi - lo + st).natAbs := by rw [Int.natAbs_tdiv]; exact Nat.div_le_self _ _
    omega
  rw [w64 (by omega) (by omega)]
end Go.Proofs.Ytopnopepcpepbaa.Pure
