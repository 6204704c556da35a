/- GuardSplits in plain numbers: the guard's Split and Merge are the document's. -/
import Derived.Test.YtopnopepcpepbaaGuardAwake
import Derived.Test.YtopnopepcpepbaaPGx12
import Derived.Test.YtopnopepcpepbaaPGx13
import Derived.Test.YtopnopepcpepbaaPGx14
import Derived.Test.YtopnopepcpepbaaPGx15
import Derived.Test.YtopnopepcpepbaaPGx16
namespace Go.Proofs.Ytopnopepcpepbaa.Pure
open Go.RowKit Go.Proofs.YtopnopepcpepbaaW.PrintWords Go.Proofs.YtopnopepcpepbaaW.PrintMore Go.Proofs.Ytopnopepcpepbaa.PG Go.Proofs.Ytopnopepcpepbaa.Ar

theorem split_both (a b lo hi st low high : Int) (k : Nat) (hk : 6000000 ≤ k) : ∃ r, guard_Split.f k a b lo hi st low high = some r ∧ quadratref22_Split.f k a b lo hi st low high = some r := by
  obtain ⟨f, t, e, h1, h2, h3, _⟩ := part_both a b lo hi st low high k hk
  unfold guard_Split.f quadratref22_Split.f
  rw [h1, h2]
  simp only [Option.bind_some]
  by_cases he : e = 0
  · obtain ⟨hs, n1, n2, n3, _⟩ := ask4 (h3.symm.trans he)
    rw [if_pos he, if_pos he, turns_g hs n1 n2 n3, turns_r hs n1 n2 n3]
    have hm : ∀ p q, guard_members.f lo hi st p q = quadratref22_some.f lo hi st p q := fun p q => rfl
    have hsome : ∀ p q, ∃ r, quadratref22_some.f lo hi st p q = some r := fun p q => by unfold quadratref22_some.f; split <;> exact ⟨_, rfl⟩
    simp only [hm, Option.bind_some]
    obtain ⟨r1, e1⟩ := hsome 0 f
    obtain ⟨r2, e2⟩ := hsome f t
    obtain ⟨r3, e3⟩ := hsome t (cnt lo hi st)
    rw [e1, e2, e3]
    exact ⟨_, rfl, rfl⟩
  · rw [if_neg he, if_neg he]
    exact ⟨_, rfl, rfl⟩

theorem merge_both (a b c d : Int) (k : Nat) (hk : 100 ≤ k) : ∃ r, guard_Merge.f k a b c d = some r ∧ quadratref22_Merge.f k a b c d = some r := by
  unfold guard_Merge.f quadratref22_Merge.f
  rw [isNumber_f [a, b, c, d] (by simp) k (by simp; omega), near_f [a, b, c, d] (by simp) k (by simp; omega)]
  simp only [Option.bind_some]
  cases allNear [a, b, c, d] <;> exact ⟨_, rfl, rfl⟩

theorem GuardSplits : ∀ (x0 : S23) (x1 : S25) (x2 : S23), (((Lit.int .i64 x0.f0).wf = true) ∧ ((Lit.int .i64 x0.f1).wf = true) ∧ ((Lit.int .i64 x0.f2).wf = true) ∧ ((Lit.int .i64 x0.f3).wf = true)) → (((Lit.int .i64 x1.f0).wf = true) ∧ ((Lit.int .i64 x1.f1).wf = true) ∧ ((Lit.int .i64 x1.f2).wf = true)) → (((Lit.int .i64 x2.f0).wf = true) ∧ ((Lit.int .i64 x2.f1).wf = true) ∧ ((Lit.int .i64 x2.f2).wf = true) ∧ ((Lit.int .i64 x2.f3).wf = true)) → ∃ k, quadratlaw22_GuardSplits.f k (x0.f0) (x0.f1) (x0.f2) (x0.f3) (x1.f0) (x1.f1) (x1.f2) (x2.f0) (x2.f1) (x2.f2) (x2.f3) = some true := by
  intro x0 x1 x2 _ _ _
  obtain ⟨r, h1, h2⟩ := split_both x0.f0 x0.f1 x1.f0 x1.f1 x1.f2 x0.f2 x0.f3 7000000 (by omega)
  obtain ⟨s, h3, h4⟩ := merge_both x0.f2 x0.f3 x2.f2 x2.f3 7000000 (by omega)
  refine ⟨7000000, ?_⟩
  unfold quadratlaw22_GuardSplits.f
  rw [h1, h2, h3, h4, awake 7000000 (by omega)]
  simp
end Go.Proofs.Ytopnopepcpepbaa.Pure
