/- What the two counts of a triple say. -/
import Derived.Test.YticjlkommabcjaaSecAwake
import Derived.Test.YticjlkommabcjaaPSx1
set_option linter.unusedVariables false
namespace Go.Proofs.Yticjlkommabcjaa.Pure
open Go.RowKit Go.Proofs.YticjlkommabcjaaW.PrintWords Go.Proofs.YticjlkommabcjaaW.PrintMore Go.Proofs.Yticjlkommabcjaa.PS Go.Proofs.Yticjlkommabcjaa.Ar

/-- A triple of numbers that the document takes. -/
def okT (a b s : Int) : Prop := (-2147483648 ≤ a ∧ a ≤ 2147483648) ∧ (-2147483648 ≤ b ∧ b ≤ 2147483648) ∧ (-2147483648 ≤ s ∧ s ≤ 2147483648) ∧ s ≠ 0
instance (a b s : Int) : Decidable (okT a b s) := by unfold okT; infer_instance

theorem cntw {a b s : Int} (h : okT a b s) : mx 0 (wrap64 (Int.tdiv (wrap64 (wrap64 (b - a) + s)) s)) = cnt a b s := by
  obtain ⟨ha, hb, hs, h0⟩ := h
  rw [w64 (x := b - a) (by omega) (by omega), w64 (x := b - a + s) (by omega) (by omega)]
  unfold cnt
  have h1 : (Int.tdiv (b - a + s) s).natAbs ≤ (b - a + s).natAbs := by
    rw [Int.natAbs_tdiv]
    exact Nat.div_le_self _ _
  rw [w64 (by omega) (by omega)]

theorem count_f (a b s : Int) : section_Count.f a b s = some (if okT a b s then (cnt a b s, 0) else (0, 2)) := by
  unfold section_Count.f
  rw [isNum_f, isNum_f, isNum_f]
  by_cases h1 : (-2147483648 ≤ a ∧ a ≤ 2147483648)
  · by_cases h2 : (-2147483648 ≤ b ∧ b ≤ 2147483648)
    · by_cases h3 : (-2147483648 ≤ s ∧ s ≤ 2147483648)
      · by_cases h4 : s = 0
        · subst h4
          simp [h1, h2, okT]
        · have hk : okT a b s := ⟨h1, h2, h3, h4⟩
          rw [if_pos hk, ← cntw hk]
          simp [h1, h2, h3, h4]
      · simp [h1, h2, h3, okT]
    · simp [h1, h2, okT]
  · simp [h1, okT]

theorem istriple_r (a b s : Int) : quadratref06_IsTriple.f a b s = some (decide (okT a b s)) := by
  unfold quadratref06_IsTriple.f
  rw [near_r, near_r, near_r]
  by_cases h1 : (-2147483648 ≤ a ∧ a ≤ 2147483648)
  · by_cases h2 : (-2147483648 ≤ b ∧ b ≤ 2147483648)
    · by_cases h3 : (-2147483648 ≤ s ∧ s ≤ 2147483648)
      · by_cases h4 : s = 0
        · subst h4
          simp [h1, h2, okT]
        · have hk : okT a b s := ⟨h1, h2, h3, h4⟩
          simp [h1, h2, h3, h4, hk]
      · simp [h1, h2, h3, okT]
    · simp [h1, h2, okT]
  · simp [h1, okT]
theorem cnt_r {a b s : Int} (h : okT a b s) : quadratref06_count.f a b s = some (cnt a b s) := by
  unfold quadratref06_count.f
  rw [if_neg h.2.2.2, cntw h]
theorem count_r (a b s : Int) : quadratref06_Count.f a b s = some (if okT a b s then (cnt a b s, 0) else (0, 2)) := by
  unfold quadratref06_Count.f
  rw [istriple_r]
  by_cases h : okT a b s
  · simp [h, cnt_r h]
  · simp [h]

/-- The bounds of a count of a triple that is taken. -/
theorem cnt_bd {a b s : Int} (h : okT a b s) : 0 ≤ cnt a b s ∧ cnt a b s ≤ 4294967297 := by
  obtain ⟨ha, hb, hs, h0⟩ := h
  exact ⟨cnt_nonneg _ _ _, by have := cnt_le (lo := a) (hi := b) (st := s) (D := 4294967296) h0 (by omega) (by omega); omega⟩

/-- How far the last member lies, and the next one. -/
theorem cnt_step {a b s : Int} (h : okT a b s) : -6442450944 ≤ cnt a b s * s ∧ cnt a b s * s ≤ 6442450944 ∧ -6442450944 ≤ (cnt a b s - 1) * s ∧ (cnt a b s - 1) * s ≤ 6442450944 := by
  have hb := cnt_bd h
  obtain ⟨ha, hb', hs, h0⟩ := h
  have e : (cnt a b s - 1) * s = cnt a b s * s - s := by rw [Int.sub_mul, Int.one_mul]
  by_cases hc : 0 < cnt a b s
  · have := cnt_in (lo := a) (hi := b) (st := s) (m := cnt a b s - 1) h0 (by omega) (by omega)
    rw [e] at this ⊢
    rcases Int.lt_trichotomy s 0 with hs0 | hs0 | hs0
    · have := this.2 hs0
      omega
    · omega
    · have := this.1 hs0
      omega
  · have hz : cnt a b s = 0 := by omega
    rw [hz]
    omega
end Go.Proofs.Yticjlkommabcjaa.Pure
