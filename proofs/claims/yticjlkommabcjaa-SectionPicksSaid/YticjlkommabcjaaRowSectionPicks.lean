/- The law quadrat/quadratlaw06.SectionPicks: for every input the call returns true and its arguments read as before; out of SectionPicks_true. No conditions. -/
import Derived.Test.YticjlkommabcjaaRows
import Derived.Test.YticjlkommabcjaaTevRow
import Derived.Test.YticjlkommabcjaaL06Picks
import Derived.WalkKit
import Derived.ProofKit
import Derived.OpenShut
import Derived.ShutString
import Derived.ChangeOld
import Derived.Below
import Derived.SizedLaws
import Derived.Carry
import Derived.KernelRfl
set_option linter.unusedVariables false
set_option linter.unusedSimpArgs false
set_option linter.unusedSectionVars false
namespace Go.Proofs.Yticjlkommabcjaa.sectionPicks
open Go.ChangeShapes Go.WideShapes Go.ChangeAt Go.RowKit Go.Proofs.Yticjlkommabcjaa.Tev
theorem own : ownKnob Try.prog.godebug = none := by kernel_rfl
theorem laidOut : laidOutB Try.prog = true := by kernel_rfl
set_option maxRecDepth 100000 in
theorem lifted (os : Os) (started : os.Started) (H : Type) (enc : TypeId × Value → H) :
    ReturnsInHanded {} Try.checked os 11 .any (Rows.sectionPicksSpec.pre6 enc Try.prog Try.f11 Rows.sectionPicksRow.domain false) (Rows.sectionPicksSpec.post enc Try.prog Try.f11 false true false false) := by
  refine returnsInHanded_of_change_sized (C := Try.checked) own started (by kernel_rfl) Try.func11
    (ChangeSpec.witness6 (enc := enc) (C := Try.checked) false ⟨#[], #[.agg #[.int .i64 0, .slice none 0 0, .slice none 0 0], .slice none 0 0], []⟩ 8 (by kernel_rfl) (by kernel_rfl) (by kernel_rfl) (by kernel_rfl)) ?_
  intro W base args ds gs before hval0 hW hcnd hsz0 _
  have hsz : (DataW.weightsEach Try.prog (Try.f11.params.toList ++ Rows.sectionPicksSpec.plain.varTypes Try.prog) (ds ++ gs)).all (· ≤ reachBytes) = true := hsz0
  have hval : ∀ (j : Nat) t v, Try.f11.params[j]? = some t → args[j]? = some v → Value.okWide Try.prog W .any base t v := hval0
  have hW' := hW
  obtain ⟨p, q, hA0, hV, rfl, hfz, hnd⟩ := hW
  have hA : DataW.TrodAll enc Try.prog W 0 (fun _ => true) true Try.f11.params.toList args.toList ds p := hA0
  rw [Try.params11] at hA hval hsz
  obtain ⟨v0, vs0, d0, ds0, p0, q0, hargs, rfl, rfl, h0, r0⟩ := trodAll_cons hA
  obtain ⟨v1, vs1, d1, ds1, p1, q1, rfl, rfl, rfl, h1, r1⟩ := trodAll_cons r0
  obtain ⟨rfl, rfl, rfl⟩ := trodAll_nil r1
  obtain rfl : args = #[v0, v1] := by cases args; simp_all
  obtain ⟨rfl, rfl⟩ := trodVars_none hV
  have lt0 : ∀ x ∈ p0, x.block < W.heap.size := by obtain ⟨m, hm⟩ := h0; exact DataW.trod_lt m _ _ _ hm
  have lt1 : ∀ x ∈ p1, x.block < W.heap.size := by obtain ⟨m, hm⟩ := h1; exact DataW.trod_lt m _ _ _ hm
  obtain ⟨x0, K0, I0⟩ := argt_cells (opt_struct 3 Try.underlying31 (opg_cons (sz := 1) (sz2 := 2) (opt_int Try.underlying3) rfl (by kernel_rfl) (opg_cons (sz := 1) (sz2 := 1) (opt_slice 1 8 Try.underlying29 (opt_int Try.underlying3) (by kernel_rfl) (by decide) (by kernel_rfl)) rfl (by kernel_rfl) (opg_one (sz := 1) (opt_slice 1 8 Try.underlying29 (opt_int Try.underlying3) (by kernel_rfl) (by decide) (by kernel_rfl)) rfl (by kernel_rfl)))) (by kernel_rfl)) h0 hsz (j := 0) (t := 31) rfl rfl
  have T0 := arg_agg Try.underlying31 (hval 0 31 v0 rfl rfl) K0
  try simp only [flat_ints] at T0
  obtain ⟨x1, K1, I1⟩ := argt_cells (opt_slice 1 24 Try.underlying51 (opt_slice 1 8 Try.underlying29 (opt_int Try.underlying3) (by kernel_rfl) (by decide) (by kernel_rfl)) (by kernel_rfl) (by decide) (by kernel_rfl)) h1 hsz (j := 1) (t := 51) rfl rfl
  have T1 := arg_slice Try.underlying51 (hval 1 51 v1 rfl rfl) K1
  try simp only [flat_ints] at T1
  clear hA0 hval0 hsz0 hsz
  have hk := SectionPicks_true x0 x1 I0 I1
  refine (row_calls (lim_sound mixed pr1_ok) hk (rts_cons T0 (rts_cons T1 rts_nil))).mono fun e W' ⟨he, bel⟩ => ?_
  subst he
  exact ⟨_, rfl, _, _, _, [], _, [], hW', trodAll_mk1 (shut_bool Try.underlying4 _), (trodAll_cons_mk (Below.trod laidOut (by kernel_rfl) (of_decide_eq_true (by kernel_rfl)) h0 bel lt0) (trodAll_cons_mk (Below.trod laidOut (by kernel_rfl) (of_decide_eq_true (by kernel_rfl)) h1 bel lt1) trodAll_mk0)), rfl, bel.frame _, fun h => by cases h⟩
theorem over : Rows.sectionPicksRow.holds Try.pinned (OpenSpec.ofChange Rows.sectionPicksSpec) :=
  OpenClaim.holds_of_wide 11 Try.f11 rfl rfl rfl rfl rfl rfl rfl ⟨rfl, rfl, rfl, rfl, rfl⟩ rfl rfl rfl rfl rfl (by kernel_rfl) Try.func11 (by kernel_rfl)
    (of_decide_eq_true (by kernel_rfl)) (by unfold Func.isWrapper; first | (rw [if_pos (by decide +kernel)]; kernel_rfl) | (rw [if_neg (by decide +kernel)]; exact ⟨rfl, rfl⟩))
    (fun os started H enc _ => lifted os started H enc)
theorem proved : Rows.SectionPicksSaid := over
#print axioms proved
end Go.Proofs.Yticjlkommabcjaa.sectionPicks
namespace Go.Proofs.Yticjlkommabcjaa
/-- The row, under a short name, for the claim. -/
theorem sectionPicks_holds : Rows.SectionPicksSaid := sectionPicks.proved
end Go.Proofs.Yticjlkommabcjaa
