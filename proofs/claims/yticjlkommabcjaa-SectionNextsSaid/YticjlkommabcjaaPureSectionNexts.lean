/- SectionNexts in plain numbers. -/
import Derived.Test.YticjlkommabcjaaSecSame
import Derived.Test.YticjlkommabcjaaPSx17
import Derived.Test.YticjlkommabcjaaPSx18
import Derived.Test.YticjlkommabcjaaPSx19
set_option linter.unusedVariables false
namespace Go.Proofs.Yticjlkommabcjaa.Pure
open Go.RowKit Go.Proofs.YticjlkommabcjaaW.PrintWords Go.Proofs.YticjlkommabcjaaW.PrintMore Go.Proofs.Yticjlkommabcjaa.PS Go.Proofs.Yticjlkommabcjaa.Ar

theorem next_l1 (x0 : List Int) : ∀ (d k : Nat) (x1 : List Int) (i : Int), x0.length = x1.length → (x1.length : Int) ≤ 9223372036854775806 → 0 ≤ i → i + d = x1.length →
    ∃ r, r.2.length = x1.length ∧ section_Next.l1 (k + d + 1) x0 x1 x1.length i = some r ∧ quadratref06_Next.l1 (k + d + 1) x0 x1 i = some r := by
  intro d
  induction d with
  | zero =>
    intro k x1 i he hl h0 h1
    refine ⟨(false, x1), rfl, ?_, ?_⟩
    · rw [section_Next.l1, if_neg (by omega)]
    · rw [quadratref06_Next.l1, if_neg (by omega)]
  | succ d ih =>
    intro k x1 i he hl h0 h1
    have q1 : i < (x1.length : Int) := by omega
    have q2 : i < (x0.length : Int) := by omega
    obtain ⟨r, e0, e1, e2⟩ := ih k ((x1.set i.toNat (wrap64 (rd x1 i + 1))).set i.toNat 0) (i + 1) (by simpa using he) (by simpa using hl) (by omega) (by simp only [List.length_set]; omega)
    simp only [List.length_set] at e0 e1
    rw [show k + (d + 1) + 1 = (k + d + 1) + 1 from by omega, section_Next.l1, quadratref06_Next.l1, w64 (x := i + 1) (by omega) (by omega)]
    simp only [if_pos q1, if_pos q2, if_pos h0, Option.bind_some]
    split
    · exact ⟨_, by simp, rfl, rfl⟩
    · exact ⟨r, e0, e1, e2⟩

theorem next_l0 (x0 x1 : List Int) (he : x0.length = x1.length) (hl : (x1.length : Int) ≤ 9223372036854775806) : ∀ (d k : Nat) (i : Int), 0 ≤ i → i + d = x1.length →
    ∃ r, r.2.length = x1.length ∧ section_Next.l0 (k + x1.length + 1 + d + 1) x0 x1 x1 x1.length i = some r ∧ quadratref06_Next.l0 (k + x1.length + 1 + d + 1) x0 x1 i = some r := by
  intro d
  induction d with
  | zero =>
    intro k i h0 h1
    obtain ⟨r, e0, e1, e2⟩ := next_l1 x0 x1.length k x1 0 he hl (by omega) (by omega)
    refine ⟨r, e0, ?_, ?_⟩
    · rw [section_Next.l0, if_neg (by omega)]
      exact e1
    · rw [quadratref06_Next.l0, if_neg (by omega)]
      exact e2
  | succ d ih =>
    intro k i h0 h1
    have q1 : i < (x1.length : Int) := by omega
    have q2 : i < (x0.length : Int) := by omega
    obtain ⟨r, e0, e1, e2⟩ := ih k (i + 1) (by omega) (by omega)
    rw [show k + x1.length + 1 + (d + 1) + 1 = (k + x1.length + 1 + d + 1) + 1 from by omega, section_Next.l0, quadratref06_Next.l0, w64 (x := i + 1) (by omega) (by omega), e1, e2]
    simp only [if_pos q1, if_pos q2, if_pos h0]
    split
    · exact ⟨_, rfl, rfl, rfl⟩
    · split
      · exact ⟨_, rfl, rfl, rfl⟩
      · exact ⟨r, e0, rfl, rfl⟩

theorem next_both (x0 x1 : List Int) (hl : (x1.length : Int) ≤ 9223372036854775806) (k : Nat) (hk : 2 * x1.length + 2 ≤ k) :
    ∃ r, r.2.length = x1.length ∧ section_Next.f k x0 x1 = some r ∧ quadratref06_Next.f k x0 x1 = some r := by
  unfold section_Next.f quadratref06_Next.f
  by_cases h : (x0.length : Int) = x1.length
  · rw [if_pos h, if_pos h, show k = (k - 2 * x1.length - 2) + x1.length + 1 + x1.length + 1 from by omega]
    exact next_l0 x0 x1 (by omega) hl x1.length _ 0 (by omega) (by omega)
  · rw [if_neg h, if_neg h]
    exact ⟨_, rfl, rfl, rfl⟩

theorem SectionNexts : ∀ (x0 : List Int) (x1 : List Int), (x0.length * 8 ≤ 140737488351232 ∧ ∀ e0_ ∈ x0, (Lit.int .i64 e0_).wf = true) → (x1.length * 8 ≤ 140737488351232 ∧ ∀ e0_ ∈ x1, (Lit.int .i64 e0_).wf = true) → ∃ k, quadratlaw06_SectionNexts.f k x0 x1 = some true := by
  intro l0 l1 h0 h1
  have hl := h1.1
  obtain ⟨r, e0, e1, e2⟩ := next_both l0 l1 (by omega) (2 * l1.length + 200) (by omega)
  refine ⟨2 * l1.length + 200, ?_⟩
  unfold quadratlaw06_SectionNexts.f
  have q : ([] : List Int).length + l1.length < 17592186044416 := by simp only [List.length_nil]; omega
  simp only [Option.bind_some, if_pos q, List.nil_append, e1, e2, BEq.rfl, if_true]
  rw [same_refl r.2 (by omega) _ (by omega), awk_snd _ (by omega)]
  rfl
end Go.Proofs.Yticjlkommabcjaa.Pure
