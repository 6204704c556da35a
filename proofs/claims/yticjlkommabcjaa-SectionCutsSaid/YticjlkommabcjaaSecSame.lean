/- A list is the same as itself; two descriptors, too. -/
import Derived.Test.YticjlkommabcjaaSecAwake
import Derived.Test.YticjlkommabcjaaPSx8
set_option linter.unusedVariables false
namespace Go.Proofs.Yticjlkommabcjaa.Pure
open Go.RowKit Go.Proofs.YticjlkommabcjaaW.PrintWords Go.Proofs.YticjlkommabcjaaW.PrintMore Go.Proofs.Yticjlkommabcjaa.PS Go.Proofs.Yticjlkommabcjaa.Ar

theorem same_loop (l : List Int) (hl : (l.length : Int) ≤ 9223372036854775806) : ∀ (d k : Nat) (i : Int), 0 ≤ i → i + d = l.length → quadratref06_SameInts.l0 (k + d + 1) l l i = some true := by
  intro d
  induction d with
  | zero =>
    intro k i h0 h1
    rw [quadratref06_SameInts.l0, if_neg (by omega)]
  | succ d ih =>
    intro k i h0 h1
    have q : i < (l.length : Int) := by omega
    rw [show k + (d + 1) + 1 = (k + d + 1) + 1 from by omega, quadratref06_SameInts.l0, w64 (x := i + 1) (by omega) (by omega), ih k (i + 1) (by omega) (by omega)]
    simp only [if_pos q, if_pos h0, if_true]
theorem same_refl (l : List Int) (hl : (l.length : Int) ≤ 9223372036854775806) (k : Nat) (hk : l.length < k) : quadratref06_SameInts.f k l l = some true := by
  unfold quadratref06_SameInts.f
  rw [if_pos rfl, show k = (k - l.length - 1) + l.length + 1 from by omega]
  exact same_loop l hl l.length _ 0 (by omega) (by omega)
end Go.Proofs.Yticjlkommabcjaa.Pure
