/- The layer in which section.Twice is told. -/
import Derived.Test.YtochkebkfoophaaCTwj
import Derived.Test.YtochkebkfoophaaTevPr
namespace Go.Proofs.Ytochkebkfoophaa.Tev
open Go Go.RowKit Go.Proofs Go.Proofs.Ytochkebkfoophaa.Q
set_option linter.unusedSectionVars false
set_option maxRecDepth 100000
set_option maxHeartbeats 0
set_option linter.unusedSimpArgs false
set_option linter.unusedVariables false
/-- The functions that are told later. -/
def NEW : List Nat := [25, 7, 8]
def Sp1 (f : FuncId) (xs : List T) (r : R) : Prop := f = 46 ∧ ∃ (b : Bool) (cap : Option Nat) (l : List Int), (l.length : Int) * 8 ≤ 140737488351232 ∧ xs = [SL b cap l.length (ints l)] ∧ r = (B (decide (¬ l.Nodup)), [])
theorem Sp1_ok (f : FuncId) (xs : List T) (r : R) (h : Sp1 f xs r) : CallsR E0.P f xs r := by
  obtain ⟨rfl, b, cap, l, h1, rfl, rfl⟩ := h
  exact Tw.twice_R b cap l h1
theorem Sp1_one {f : FuncId} {xs : List T} {r r' : R} (h : Sp1 f xs r) (h' : Sp1 f xs r') : r' = r := by
  obtain ⟨rfl, b, cap, l, _, rfl, rfl⟩ := h
  obtain ⟨_, b', cap', l', _, e, rfl⟩ := h'
  simp only [List.cons.injEq, and_true] at e
  rw [ints_inj (SL_inj e)]
noncomputable def pr1 : FuncId → List T → Option R := relP Sp1 (butP NEW CALL)
theorem pr1_ok : CallOK E0.P pr1 := relP_ok Sp1_ok (butP_ok (lim_sound mixed pr0_ok))
noncomputable abbrev CALL1 := (lim E0 pr1).call
theorem Sp1_not {f : FuncId} (h : f ≠ 46) (xs : List T) (r : R) : ¬ Sp1 f xs r := fun q => h q.1
theorem pr1_none {f : FuncId} (h : f ≠ 46 ∧ f ∈ NEW) (xs : List T) : pr1 f xs = none := (relP_none (Sp1_not h.1 xs)).trans (if_pos h.2)
theorem old1 {f : FuncId} {xs : List T} {r : R} (h : f ≠ 46 ∧ f ∉ NEW) (hc : CALL f xs = some r) : CALL1 f xs = some r :=
  lim_pr ((relP_none (Sp1_not h.1 xs)).trans ((if_neg h.2).trans hc))
theorem s1_Twice (b : Bool) (cap : Option Nat) (l : List Int) (h : (l.length : Int) * 8 ≤ 140737488351232) : CALL1 46 [SL b cap l.length (ints l)] = some (B (decide (¬ l.Nodup)), []) :=
  lim_pr (relP_of ⟨rfl, b, cap, l, h, rfl, rfl⟩ fun r' h' => Sp1_one ⟨rfl, b, cap, l, h, rfl, rfl⟩ h')
end Go.Proofs.Ytochkebkfoophaa.Tev
