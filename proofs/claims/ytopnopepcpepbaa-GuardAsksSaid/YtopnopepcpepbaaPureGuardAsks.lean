/- GuardAsks in plain numbers: the guard's First and Safe are the document's. -/
import Derived.Test.YtopnopepcpepbaaGuardAwake
import Derived.Test.YtopnopepcpepbaaPGx10
namespace Go.Proofs.Ytopnopepcpepbaa.Pure
open Go.RowKit Go.Proofs.YtopnopepcpepbaaW.PrintWords Go.Proofs.YtopnopepcpepbaaW.PrintMore Go.Proofs.Ytopnopepcpepbaa.PG Go.Proofs.Ytopnopepcpepbaa.Ar

theorem GuardAsks : ∀ (x0 : S23) (x1 : S25), (((Lit.int .i64 x0.f0).wf = true) ∧ ((Lit.int .i64 x0.f1).wf = true) ∧ ((Lit.int .i64 x0.f2).wf = true) ∧ ((Lit.int .i64 x0.f3).wf = true)) → (((Lit.int .i64 x1.f0).wf = true) ∧ ((Lit.int .i64 x1.f1).wf = true) ∧ ((Lit.int .i64 x1.f2).wf = true)) → ∃ k, quadratlaw22_GuardAsks.f k (x0.f0) (x0.f1) (x0.f2) (x0.f3) (x1.f0) (x1.f1) (x1.f2) = some true := by
  intro x0 x1 _ _
  obtain ⟨r, s, e, h1, h2, h3, h4, _⟩ := safe_both x0.f0 x0.f1 x1.f0 x1.f1 x1.f2 x0.f2 x0.f3 7000000 (Nat.le_refl _)
  refine ⟨7000000, ?_⟩
  unfold quadratlaw22_GuardAsks.f
  rw [h1, h2, h3, h4, awake 7000000 (by omega)]
  simp
end Go.Proofs.Ytopnopepcpepbaa.Pure
