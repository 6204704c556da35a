/- SectionCounts in plain numbers: one more fits neither behind the last member, nor is one missing. -/
import Derived.Test.YticjlkommabcjaaSecCount
import Derived.Test.YticjlkommabcjaaPSx9
set_option linter.unusedVariables false
namespace Go.Proofs.Yticjlkommabcjaa.Pure
open Go.RowKit Go.Proofs.YticjlkommabcjaaW.PrintWords Go.Proofs.YticjlkommabcjaaW.PrintMore Go.Proofs.Yticjlkommabcjaa.PS Go.Proofs.Yticjlkommabcjaa.Ar

theorem SectionCounts : ∀ (x0 : S23), (((Lit.int .i64 x0.f0).wf = true) ∧ ((Lit.int .i64 x0.f1).wf = true) ∧ ((Lit.int .i64 x0.f2).wf = true)) → ∃ k, quadratlaw06_SectionCounts.f k (x0.f0) (x0.f1) (x0.f2) = some true := by
  intro x0 _
  obtain ⟨a, b, s⟩ := x0
  refine ⟨102, ?_⟩
  show quadratlaw06_SectionCounts.f 102 a b s = some true
  unfold quadratlaw06_SectionCounts.f
  rw [count_f, count_r]
  have hA := awk_snd 101 (by omega)
  by_cases h : okT a b s
  · rw [if_pos h]
    simp only [Option.bind_some, bne_self_eq_false, if_true]
    have hb := cnt_bd h
    have h' := h
    obtain ⟨h1, h2, h3, h4⟩ := h'
    have hM := cnt_step h
    show quadratlaw06_SectionCounts.j0 (101 + 1) _ _ _ _ _ _ = _
    rw [quadratlaw06_SectionCounts.j0]
    rw [w64 (x := cnt a b s * s) (by omega) (by omega), w64 (x := cnt a b s - 1) (by omega) (by omega), w64 (x := (cnt a b s - 1) * s) (by omega) (by omega),
      w64 (x := a + cnt a b s * s) (by omega) (by omega), w64 (x := a + (cnt a b s - 1) * s) (by omega) (by omega), hA]
    simp only [Bool.false_eq_true, if_false, if_true]
    by_cases hp : s > 0
    · have c := cnt_pos (lo := a) (hi := b) hp
      rw [if_pos hp, if_pos c.2.1]
      split
      · rfl
      · rw [if_pos (c.2.2 (by omega))]
    · have c := cnt_neg' (lo := a) (hi := b) (st := s) (by omega)
      rw [if_neg hp, if_pos c.2.1]
      split
      · rfl
      · rw [if_pos (c.2.2 (by omega))]
  · rw [if_neg h]
    simp only [Option.bind_some, bne_self_eq_false, if_true]
    show quadratlaw06_SectionCounts.j0 (101 + 1) _ _ _ _ _ _ = _
    rw [quadratlaw06_SectionCounts.j0]
    rw [hA]
    simp
end Go.Proofs.Yticjlkommabcjaa.Pure
