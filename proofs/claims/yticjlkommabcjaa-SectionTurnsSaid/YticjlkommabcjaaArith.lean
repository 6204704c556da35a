/- Plain arithmetic that the pure statements share: wrapped sums, counts of triples. -/
import Derived.Test.YticjlkommabcjaaWMore
set_option linter.unusedVariables false
namespace Go.Proofs.Yticjlkommabcjaa.Ar
open Go.RowKit Go.Proofs.YticjlkommabcjaaW.PrintWords Go.Proofs.YticjlkommabcjaaW.PrintMore

theorem w64 {x : Int} (h1 : -9223372036854775808 ≤ x) (h2 : x ≤ 9223372036854775807) : wrap64 x = x := by
  unfold wrap64
  omega

theorem mul_bd {a b A B : Int} (h1 : -A ≤ a) (h2 : a ≤ A) (h3 : -B ≤ b) (h4 : b ≤ B) : -(A * B) ≤ a * b ∧ a * b ≤ A * B := by
  have hA : 0 ≤ A := by omega
  have hB : 0 ≤ B := by omega
  have e : (a * b).natAbs ≤ (A * B).natAbs := by
    rw [Int.natAbs_mul, Int.natAbs_mul]
    exact Nat.mul_le_mul (by omega) (by omega)
  have : 0 ≤ A * B := Int.mul_nonneg hA hB
  omega

theorem mul_lt_of {a b c : Int} (h : a < b) (hc : 0 < c) : a * c < b * c := Int.mul_lt_mul_of_pos_right h hc

/-- How many members a triple has, as the code reckons it. -/
def cnt (lo hi st : Int) : Int := mx 0 (Int.tdiv (hi - lo + st) st)

theorem tdiv_pos {x y : Int} (hx : 0 ≤ x) (hy : 0 < y) : 0 ≤ Int.tdiv x y ∧ Int.tdiv x y * y ≤ x ∧ x < Int.tdiv x y * y + y := by
  rw [Int.tdiv_eq_ediv_of_nonneg hx]
  have h1 := Int.emod_nonneg x (by omega : y ≠ 0)
  have h2 := Int.emod_lt_of_pos x hy
  have h3 := Int.emod_add_mul_ediv x y
  have h4 : x / y * y = y * (x / y) := Int.mul_comm _ _
  exact ⟨Int.ediv_nonneg hx (by omega), by omega, by omega⟩

theorem tdiv_nonpos {x y : Int} (hx : x ≤ 0) (hy : 0 < y) : Int.tdiv x y ≤ 0 := by
  have : Int.tdiv x y = -(Int.tdiv (-x) y) := by rw [Int.neg_tdiv, Int.neg_neg]
  rw [this]
  have := (tdiv_pos (x := -x) (by omega) hy).1
  omega

theorem cnt_pos {lo hi st : Int} (hs : 0 < st) : 0 ≤ cnt lo hi st ∧ hi < lo + cnt lo hi st * st ∧ (0 < cnt lo hi st → lo + (cnt lo hi st - 1) * st ≤ hi) := by
  unfold cnt
  rcases Int.lt_or_le (hi - lo + st) 0 with h | h
  · have h1 := tdiv_nonpos (x := hi - lo + st) (y := st) (by omega) hs
    have e : mx 0 (Int.tdiv (hi - lo + st) st) = 0 := by unfold mx; split <;> omega
    rw [e]
    simp
    omega
  · obtain ⟨h1, h2, h3⟩ := tdiv_pos h hs
    have e : mx 0 (Int.tdiv (hi - lo + st) st) = Int.tdiv (hi - lo + st) st := by unfold mx; split <;> omega
    rw [e, Int.sub_mul, Int.one_mul]
    exact ⟨h1, by omega, fun _ => by omega⟩

theorem cnt_neg {lo hi st : Int} (hs : st < 0) : cnt lo hi st = cnt (-lo) (-hi) (-st) := by
  unfold cnt
  have : Int.tdiv (hi - lo + st) st = Int.tdiv (-hi - -lo + -st) (-st) := by
    rw [Int.tdiv_neg, show (-hi - -lo + -st) = -(hi - lo + st) from by omega, Int.neg_tdiv, Int.neg_neg]
  rw [this]

theorem cnt_neg' {lo hi st : Int} (hs : st < 0) : 0 ≤ cnt lo hi st ∧ lo + cnt lo hi st * st < hi ∧ (0 < cnt lo hi st → hi ≤ lo + (cnt lo hi st - 1) * st) := by
  rw [cnt_neg hs]
  have h := cnt_pos (lo := -lo) (hi := -hi) (st := -st) (by omega)
  rw [Int.mul_neg, Int.mul_neg] at h
  exact ⟨h.1, by omega, fun h0 => by have := h.2.2 h0; omega⟩

/-- Any turn's member lies between the two ends. -/
theorem cnt_in {lo hi st m : Int} (hs : st ≠ 0) (h0 : 0 ≤ m) (h1 : m < cnt lo hi st) : (0 < st → lo ≤ lo + m * st ∧ lo + m * st ≤ hi) ∧ (st < 0 → lo + m * st ≤ lo ∧ hi ≤ lo + m * st) := by
  constructor
  · intro hp
    have h := (cnt_pos (lo := lo) (hi := hi) hp).2.2 (by omega)
    have a := Int.mul_nonneg h0 (by omega : 0 ≤ st)
    have b := Int.mul_le_mul_of_nonneg_right (show m ≤ cnt lo hi st - 1 by omega) (show 0 ≤ st by omega)
    omega
  · intro hn
    have h := (cnt_neg' (lo := lo) (hi := hi) hn).2.2 (by omega)
    have a := Int.mul_nonneg h0 (by omega : 0 ≤ -st)
    have b := Int.mul_le_mul_of_nonneg_right (show m ≤ cnt lo hi st - 1 by omega) (show 0 ≤ -st by omega)
    rw [Int.mul_neg] at a
    rw [Int.mul_neg, Int.mul_neg] at b
    omega

theorem cnt_nonneg (lo hi st : Int) : 0 ≤ cnt lo hi st := by unfold cnt mx; split <;> omega

/-- A count is no greater than the way, and one. -/
theorem cnt_le {lo hi st D : Int} (hs : st ≠ 0) (h1 : -D ≤ hi - lo) (h2 : hi - lo ≤ D) : cnt lo hi st ≤ D + 1 := by
  have hD : 0 ≤ D := by omega
  rcases Int.lt_or_le 0 (cnt lo hi st) with h0 | h0
  · rcases Int.lt_or_gt_of_ne hs with hn | hp
    · have h := (cnt_neg' (lo := lo) (hi := hi) hn).2.2 h0
      have b := Int.mul_le_mul_of_nonneg_left (show 1 ≤ -st by omega) (show 0 ≤ cnt lo hi st - 1 by omega)
      rw [Int.mul_neg] at b
      omega
    · have h := (cnt_pos (lo := lo) (hi := hi) hp).2.2 h0
      have b := Int.mul_le_mul_of_nonneg_left (show 1 ≤ st by omega) (show 0 ≤ cnt lo hi st - 1 by omega)
      omega
  · omega

end Go.Proofs.Yticjlkommabcjaa.Ar
