/- GuardParts in plain numbers: the guard's Part and Ends are the document's. -/
import Derived.Test.YtopnopepcpepbaaGuardAwake
import Derived.Test.YtopnopepcpepbaaPGx6
import Derived.Test.YtopnopepcpepbaaPGx10
import Derived.Test.YtopnopepcpepbaaPGx11
import Derived.Test.YtopnopepcpepbaaPGx12
namespace Go.Proofs.Ytopnopepcpepbaa.Pure
open Go.RowKit Go.Proofs.YtopnopepcpepbaaW.PrintWords Go.Proofs.YtopnopepcpepbaaW.PrintMore Go.Proofs.Ytopnopepcpepbaa.PG Go.Proofs.Ytopnopepcpepbaa.Ar

theorem ends_both (a b lo hi st : Int) (k : Nat) (hk : 300 ≤ k) : ∃ r, guard_Ends.f k a b lo hi st = some r ∧ quadratref22_Ends.f k a b lo hi st = some r := by
  unfold guard_Ends.f quadratref22_Ends.f
  rw [asked_g lo hi st [a, b] (by simp) k (by omega), asked_r lo hi st [a, b] (by simp) k (by omega)]
  simp only [Option.bind_some]
  by_cases he : askE lo hi st [a, b] = 0
  · obtain ⟨hs, n1, n2, n3, n4⟩ := askE_ok he
    have na := n4 a (by simp)
    have nb := n4 b (by simp)
    rw [if_pos he, if_pos he, turns_g hs n1 n2 n3, turns_r hs n1 n2 n3]
    simp only [Option.bind_some]
    have hn0 := cnt_nonneg lo hi st
    have hn1 := cnt_le (lo := lo) (hi := hi) (D := 2000000) hs (by unfold near at *; omega) (by unfold near at *; omega)
    by_cases h0 : cnt lo hi st = 0
    · rw [if_pos h0, if_pos h0]
      exact ⟨_, rfl, rfl⟩
    · rw [if_neg h0, if_neg h0, w64 (x := cnt lo hi st - 1) (by omega) (by omega)]
      refine ⟨_, rfl, ?_⟩
      unfold quadratref22_value.f
      simp only [Option.bind_some, Int.zero_mul]
      rw [w64 (x := 0) (by omega) (by omega), Int.add_zero, w64 (x := lo) (by unfold near at n1; omega) (by unfold near at n1; omega)]
  · rw [if_neg he, if_neg he]
    exact ⟨_, rfl, rfl⟩

theorem GuardParts : ∀ (x0 : S23) (x1 : S25), (((Lit.int .i64 x0.f0).wf = true) ∧ ((Lit.int .i64 x0.f1).wf = true) ∧ ((Lit.int .i64 x0.f2).wf = true) ∧ ((Lit.int .i64 x0.f3).wf = true)) → (((Lit.int .i64 x1.f0).wf = true) ∧ ((Lit.int .i64 x1.f1).wf = true) ∧ ((Lit.int .i64 x1.f2).wf = true)) → ∃ k, quadratlaw22_GuardParts.f k (x0.f0) (x0.f1) (x0.f2) (x0.f3) (x1.f0) (x1.f1) (x1.f2) = some true := by
  intro x0 x1 _ _
  obtain ⟨f, t, e, h1, h2, _⟩ := part_both x0.f0 x0.f1 x1.f0 x1.f1 x1.f2 x0.f2 x0.f3 7000000 (by omega)
  obtain ⟨r, h3, h4⟩ := ends_both x0.f0 x0.f1 x1.f0 x1.f1 x1.f2 7000000 (by omega)
  refine ⟨7000000, ?_⟩
  unfold quadratlaw22_GuardParts.f
  rw [h1, h2, h3, h4, awake 7000000 (by omega)]
  simp
end Go.Proofs.Ytopnopepcpepbaa.Pure
