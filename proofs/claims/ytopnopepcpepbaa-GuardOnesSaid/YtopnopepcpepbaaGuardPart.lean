/- Part: the safe turns of a loop, as the guard reckons them and as the document's halving finds them. -/
import Derived.Test.YtopnopepcpepbaaGuardLib
import Derived.Test.YtopnopepcpepbaaPGx3
import Derived.Test.YtopnopepcpepbaaPGx4
set_option linter.unusedVariables false
namespace Go.Proofs.Ytopnopepcpepbaa.Pure
open Go.RowKit Go.Proofs.YtopnopepcpepbaaW.PrintWords Go.Proofs.YtopnopepcpepbaaW.PrintMore Go.Proofs.Ytopnopepcpepbaa.PG Go.Proofs.Ytopnopepcpepbaa.Ar

/-- The value of an access at turn m. -/
def val (a b lo st m : Int) : Int := a * (lo + m * st) + b

/-- Which turns are safe: those from one on, up to another one. -/
structure PartSpec (a b lo st low high n f t : Int) : Prop where
  f0 : 0 ≤ f
  tn : t ≤ n
  ft : f < t ∨ (f = 0 ∧ t = 0)
  iff : ∀ m, 0 ≤ m → m < n → ((low ≤ val a b lo st m ∧ val a b lo st m ≤ high) ↔ (f ≤ m ∧ m < t))

theorem PartSpec.uniq {a b lo st low high n f t f' t' : Int} (h : PartSpec a b lo st low high n f t) (h' : PartSpec a b lo st low high n f' t') : f = f' ∧ t = t' := by
  have key : ∀ m, 0 ≤ m → m < n → ((f ≤ m ∧ m < t) ↔ (f' ≤ m ∧ m < t')) := fun m h0 h1 => (h.iff m h0 h1).symm.trans (h'.iff m h0 h1)
  have a1 := h.f0; have a2 := h.tn; have b1 := h'.f0; have b2 := h'.tn
  rcases h.ft with c | ⟨c1, c2⟩ <;> rcases h'.ft with d | ⟨d1, d2⟩
  · have k1 := key f (by omega) (by omega)
    have k2 := key f' (by omega) (by omega)
    have k3 := key (t - 1) (by omega) (by omega)
    have k4 := key (t' - 1) (by omega) (by omega)
    omega
  · have k1 := key f (by omega) (by omega)
    omega
  · have k1 := key f' (by omega) (by omega)
    omega
  · omega

theorem val_step (a b lo st m : Int) : val a b lo st m = (a * lo + b) + m * (a * st) := by
  unfold val
  rw [Int.mul_add, show a * (m * st) = m * (a * st) from by rw [← Int.mul_assoc, Int.mul_comm a m, Int.mul_assoc]]
  omega

/-! ### the guard's way -/
theorem floor_f {a b : Int} (hb : 0 < b) (h1 : -9000000000000 ≤ a) (h2 : a ≤ 9000000000000) : ∃ q, guard_floor.f a b = some q ∧ q * b ≤ a ∧ a < q * b + b ∧ -9000000000001 ≤ q ∧ q ≤ 9000000000001 := by
  unfold guard_floor.f
  rw [if_neg (by omega)]
  have e : (Int.tdiv a b).natAbs ≤ a.natAbs := by rw [Int.natAbs_tdiv]; exact Nat.div_le_self _ _
  have hd := Int.tmod_add_mul_tdiv a b
  have hm : b * Int.tdiv a b = Int.tdiv a b * b := Int.mul_comm _ _
  have hw : wrap64 (Int.tdiv a b) = Int.tdiv a b := w64 (by omega) (by omega)
  have hlt := Int.natAbs_tmod a b
  have hlt2 : (Int.tmod a b).natAbs < b.natAbs := by rw [hlt]; exact Nat.mod_lt _ (by omega)
  rw [hw]
  by_cases hneg : Int.tmod a b < 0
  · rw [if_pos hneg]
    refine ⟨_, rfl, ?_⟩
    rw [w64 (by omega) (by omega), Int.sub_mul, Int.one_mul]
    omega
  · rw [if_neg hneg]
    exact ⟨_, rfl, by omega⟩

theorem ceil_f {a b : Int} (hb : 0 < b) (h1 : -9000000000000 ≤ a) (h2 : a ≤ 9000000000000) : ∃ q, guard_ceil.f a b = some q ∧ a ≤ q * b ∧ q * b < a + b ∧ -9000000000001 ≤ q ∧ q ≤ 9000000000001 := by
  unfold guard_ceil.f
  rw [w64 (by omega) (by omega)]
  obtain ⟨q, hq, h3, h4, h5, h6⟩ := floor_f (a := -a) hb (by omega) (by omega)
  rw [hq]
  refine ⟨-q, ?_, ?_⟩
  · simp only [Option.bind_some]
    rw [w64 (by omega) (by omega)]
  · rw [Int.neg_mul]
    omega

theorem mx_def (a b : Int) : mx a b = if a < b then b else a := rfl
theorem mn_def (a b : Int) : mn a b = if b < a then b else a := rfl

/-- The rising way: first + m * step between low and high. -/
theorem j0_f {n first step low high : Int} (hs : 0 < step) (hf1 : -4000000000000 ≤ first) (hf2 : first ≤ 4000000000000) (hl1 : -4000000000000 ≤ low) (hl2 : low ≤ 4000000000000) (hh1 : -4000000000000 ≤ high) (hh2 : high ≤ 4000000000000) (hn0 : 0 ≤ n) (hn : n ≤ 4000000000000) (k : Nat) (hk : 1 ≤ k) :
    ∃ f t, guard_Part.j0 k low high n first step = some (f, t, 0) ∧ 0 ≤ f ∧ t ≤ n ∧ (f < t ∨ (f = 0 ∧ t = 0)) ∧ ∀ m, 0 ≤ m → m < n → ((low ≤ first + m * step ∧ first + m * step ≤ high) ↔ (f ≤ m ∧ m < t)) := by
  obtain ⟨k, rfl⟩ : ∃ m, k = m + 1 := ⟨k - 1, by omega⟩
  simp only [guard_Part.j0]
  obtain ⟨c, hc, c1, c2, c3, c4⟩ := ceil_f (a := low - first) hs (by omega) (by omega)
  obtain ⟨d, hd, d1, d2, d3, d4⟩ := floor_f (a := high - first) hs (by omega) (by omega)
  rw [w64 (x := low - first) (by omega) (by omega), w64 (x := high - first) (by omega) (by omega), hc]
  simp only [Option.bind_some]
  rw [hd]
  simp only [Option.bind_some]
  rw [w64 (x := d + 1) (by omega) (by omega)]
  have key : ∀ m, ((low ≤ first + m * step ∧ first + m * step ≤ high) ↔ (c ≤ m ∧ m ≤ d)) := by
    intro m
    constructor
    · rintro ⟨h1, h2⟩
      constructor
      · refine Decidable.byContradiction fun hx => ?_
        have := Int.mul_le_mul_of_nonneg_right (show m ≤ c - 1 by omega) (show 0 ≤ step by omega)
        rw [Int.sub_mul, Int.one_mul] at this
        omega
      · refine Decidable.byContradiction fun hx => ?_
        have := Int.mul_le_mul_of_nonneg_right (show d + 1 ≤ m by omega) (show 0 ≤ step by omega)
        rw [Int.add_mul, Int.one_mul] at this
        omega
    · rintro ⟨h1, h2⟩
      have e1 := Int.mul_le_mul_of_nonneg_right h1 (show 0 ≤ step by omega)
      have e2 := Int.mul_le_mul_of_nonneg_right h2 (show 0 ≤ step by omega)
      omega
  have hmx : mx 0 c = if 0 < c then c else 0 := rfl
  have hmn : mn n (d + 1) = if d + 1 < n then d + 1 else n := rfl
  by_cases hge : mx 0 c ≥ mn n (d + 1)
  · rw [if_pos hge]
    refine ⟨0, 0, rfl, by omega, hn0, .inr ⟨rfl, rfl⟩, fun m h0 h1 => (key m).trans ?_⟩
    rw [hmx, hmn] at hge
    split at hge <;> split at hge <;> omega
  · rw [if_neg hge]
    refine ⟨_, _, rfl, ?_⟩
    rw [hmx, hmn] at hge ⊢
    refine ⟨?_, ?_, ?_, fun m h0 h1 => (key m).trans ?_⟩ <;> (split at hge <;> split at hge <;> omega)
end Go.Proofs.Ytopnopepcpepbaa.Pure
