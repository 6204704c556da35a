/- SectionAts in plain numbers. -/
import Derived.Test.YticjlkommabcjaaSecRefValid
import Derived.Test.YticjlkommabcjaaSecAwake
import Derived.Test.YticjlkommabcjaaPSx14
import Derived.Test.YticjlkommabcjaaPSx15
import Derived.Test.YticjlkommabcjaaPSx16
set_option linter.unusedVariables false
namespace Go.Proofs.Yticjlkommabcjaa.Pure
open Go.RowKit Go.Proofs.YticjlkommabcjaaW.PrintWords Go.Proofs.YticjlkommabcjaaW.PrintMore Go.Proofs.Yticjlkommabcjaa.PS Go.Proofs.Yticjlkommabcjaa.Ar

theorem at_loops (b : Int) (E S x1 : List Int) (hx : x1.length ≤ 3) (hE : x1.length = E.length) (hS : S.length = E.length) : ∀ (d k k' : Nat) (i a : Int), 0 ≤ i → i + d = x1.length →
    ∃ r, section_At.l0 (k + d + 1) a x1 x1.length i b E S = some r ∧ quadratref06_At.l0 (k' + d + 1) x1 a i b E S = some r := by
  intro d
  induction d with
  | zero =>
    intro k k' i a h0 h1
    refine ⟨(a, 0), ?_, ?_⟩
    · rw [section_At.l0, if_neg (by omega)]
    · rw [quadratref06_At.l0, if_neg (by omega)]
  | succ d ih =>
    intro k k' i a h0 h1
    obtain ⟨r, e1, e2⟩ := ih k k' (i + 1) (wrap64 (a + wrap64 (rd x1 i * rd S i))) (by omega) (by omega)
    have q1 : i < (x1.length : Int) := by omega
    have q2 : i < (E.length : Int) := by omega
    have q3 : i < (S.length : Int) := by omega
    rw [show k + (d + 1) + 1 = (k + d + 1) + 1 from by omega, show k' + (d + 1) + 1 = (k' + d + 1) + 1 from by omega, section_At.l0, quadratref06_At.l0, w64 (x := i + 1) (by omega) (by omega), e1, e2]
    simp only [if_pos q1, if_pos q2, if_pos q3, if_pos h0]
    split
    · exact ⟨_, rfl, rfl⟩
    · split
      · exact ⟨_, rfl, rfl⟩
      · exact ⟨_, rfl, rfl⟩

theorem at_both (b : Int) (E S x1 : List Int) (hb : b ≤ 9223372036854775807) (hSl : (S.length : Int) ≤ 9223372036854775806) : ∃ r, section_At.f 60000 b E S x1 = some r ∧ quadratref06_At.f 60000 b E S x1 = some r := by
  unfold section_At.f quadratref06_At.f
  rw [valid_f b E S hb hSl _ (by omega), valid_r b E S hb _ (by omega)]
  simp only [Option.bind_some]
  by_cases h : okD b E S
  · rw [decide_eq_true h, if_pos rfl, if_pos rfl, show (60000 : Nat) = 59999 + 1 from rfl, section_At.j0, quadratref06_At.j0]
    by_cases h1 : (x1.length : Int) = E.length
    · have hl := h.1.1
      have hS := h.2.2.1
      rw [bne_eq_false_iff_eq.2 h1, if_neg (by decide), if_neg (by decide), show (59999 : Nat) = (59998 - x1.length) + x1.length + 1 from by omega]
      exact at_loops b E S x1 (by omega) (by omega) hS x1.length _ _ 0 b (by omega) (by omega)
    · rw [bne_iff_ne.2 h1]
      exact ⟨(0, 2), if_pos rfl, if_pos rfl⟩
  · rw [decide_eq_false h]
    show ∃ r, section_At.j0 (59999 + 1) x1 true b E S = some r ∧ quadratref06_At.j0 (59999 + 1) x1 true b E S = some r
    rw [section_At.j0, quadratref06_At.j0]
    exact ⟨(0, 2), if_pos rfl, if_pos rfl⟩

theorem SectionAts : ∀ (x0 : S31) (x1 : List Int), (((Lit.int .i64 x0.f0).wf = true) ∧ (x0.f1.length * 8 ≤ 140737488351232 ∧ ∀ e0_ ∈ x0.f1, (Lit.int .i64 e0_).wf = true) ∧ (x0.f2.length * 8 ≤ 140737488351232 ∧ ∀ e0_ ∈ x0.f2, (Lit.int .i64 e0_).wf = true)) → (x1.length * 8 ≤ 140737488351232 ∧ ∀ e0_ ∈ x1, (Lit.int .i64 e0_).wf = true) → ∃ k, quadratlaw06_SectionAts.f k (x0.f0) (x0.f1) (x0.f2) x1 = some true := by
  intro x0 x1 h0 h1
  obtain ⟨b, E, S⟩ := x0
  have hb := (i64_wf b).1 h0.1
  have hS := h0.2.2.1
  obtain ⟨r, e1, e2⟩ := at_both b E S x1 (by omega) (by dsimp only at hS; omega)
  refine ⟨60000, ?_⟩
  show quadratlaw06_SectionAts.f 60000 b E S x1 = some true
  unfold quadratlaw06_SectionAts.f
  rw [e1, e2, awk_snd _ (by omega)]
  simp
end Go.Proofs.Yticjlkommabcjaa.Pure
