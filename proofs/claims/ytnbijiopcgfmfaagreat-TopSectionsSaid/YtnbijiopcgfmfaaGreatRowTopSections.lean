/- The law quadrat/quadrattop.TopSections: for every input the call returns true and its arguments read as before; out of TopSections_true. No conditions. -/
import Derived.Test.YtnbijiopcgfmfaaGreatRows
import Derived.Test.YtnbijiopcgfmfaaGreatP06
import Derived.Test.YtnbijiopcgfmfaaGreatP14
import Derived.WalkKit
import Derived.ProofKit
import Derived.OpenShut
import Derived.ShutString
import Derived.ChangeOld
import Derived.Below
import Derived.SizedLaws
import Derived.Carry
import Derived.KernelRfl
set_option linter.unusedVariables false
set_option linter.unusedSimpArgs false
set_option linter.unusedSectionVars false
namespace Go.Proofs.YtnbijiopcgfmfaaGreat.topSections
open Go.ChangeShapes Go.WideShapes Go.ChangeAt Go.RowKit Go.Proofs.YtnbijiopcgfmfaaGreat.Tev
theorem own : ownKnob Tryz.prog.godebug = none := by kernel_rfl
theorem laidOut : laidOutB Tryz.prog = true := by kernel_rfl
set_option maxRecDepth 100000 in
theorem lifted (os : Os) (started : os.Started) (H : Type) (enc : TypeId × Value → H) :
    ReturnsInHanded {} Tryz.checked os 3 .any (Rows.topSectionsSpec.pre6 enc Tryz.prog Tryz.f3 Rows.topSectionsRow.domain false) (Rows.topSectionsSpec.post enc Tryz.prog Tryz.f3 false true false false) := by
  refine returnsInHanded_of_change_sized (C := Tryz.checked) own started (by kernel_rfl) Tryz.func3
    (ChangeSpec.witness6 (enc := enc) (C := Tryz.checked) false ⟨#[], #[.agg #[.int .i64 0, .slice none 0 0, .slice none 0 0], .agg #[.slice none 0 0, .slice none 0 0, .string ByteArray.empty], .slice none 0 0], []⟩ 8 (by kernel_rfl) (by kernel_rfl) (by kernel_rfl) (by kernel_rfl)) ?_
  intro W base args ds gs before hval0 hW hcnd hsz0 _
  have hsz : (DataW.weightsEach Tryz.prog (Tryz.f3.params.toList ++ Rows.topSectionsSpec.plain.varTypes Tryz.prog) (ds ++ gs)).all (· ≤ reachBytes) = true := hsz0
  have hval : ∀ (j : Nat) t v, Tryz.f3.params[j]? = some t → args[j]? = some v → Value.okWide Tryz.prog W .any base t v := hval0
  have hW' := hW
  obtain ⟨p, q, hA0, hV, rfl, hfz, hnd⟩ := hW
  have hA : DataW.TrodAll enc Tryz.prog W 0 (fun _ => true) true Tryz.f3.params.toList args.toList ds p := hA0
  rw [Tryz.params3] at hA hval hsz
  obtain ⟨v0, vs0, d0, ds0, p0, q0, hargs, rfl, rfl, h0, r0⟩ := trodAll_cons hA
  obtain ⟨v1, vs1, d1, ds1, p1, q1, rfl, rfl, rfl, h1, r1⟩ := trodAll_cons r0
  obtain ⟨v2, vs2, d2, ds2, p2, q2, rfl, rfl, rfl, h2, r2⟩ := trodAll_cons r1
  obtain ⟨rfl, rfl, rfl⟩ := trodAll_nil r2
  obtain rfl : args = #[v0, v1, v2] := by cases args; simp_all
  obtain ⟨rfl, rfl⟩ := trodVars_none hV
  have lt0 : ∀ x ∈ p0, x.block < W.heap.size := by obtain ⟨m, hm⟩ := h0; exact DataW.trod_lt m _ _ _ hm
  have lt1 : ∀ x ∈ p1, x.block < W.heap.size := by obtain ⟨m, hm⟩ := h1; exact DataW.trod_lt m _ _ _ hm
  have lt2 : ∀ x ∈ p2, x.block < W.heap.size := by obtain ⟨m, hm⟩ := h2; exact DataW.trod_lt m _ _ _ hm
  obtain ⟨x0, K0, I0⟩ := argt_cells (opt_struct 3 Tryz.underlying24 (opg_cons (sz := 1) (sz2 := 2) (opt_int Tryz.underlying3) rfl (by kernel_rfl) (opg_cons (sz := 1) (sz2 := 1) (opt_slice 1 8 Tryz.underlying22 (opt_int Tryz.underlying3) (by kernel_rfl) (by decide) (by kernel_rfl)) rfl (by kernel_rfl) (opg_one (sz := 1) (opt_slice 1 8 Tryz.underlying22 (opt_int Tryz.underlying3) (by kernel_rfl) (by decide) (by kernel_rfl)) rfl (by kernel_rfl)))) (by kernel_rfl)) h0 hsz (j := 0) (t := 24) rfl rfl
  have T0 := arg_agg Tryz.underlying24 (hval 0 24 v0 rfl rfl) K0
  try simp only [flat_ints] at T0
  obtain ⟨x1, K1, I1⟩ := argt_cells (opt_struct 3 Tryz.underlying27 (opg_cons (sz := 1) (sz2 := 2) (opt_slice 5 40 Tryz.underlying25 (opt_struct 5 Tryz.underlying65 (opg_cons (sz := 1) (sz2 := 4) (opt_bool Tryz.underlying4) rfl (by kernel_rfl) (opg_cons (sz := 1) (sz2 := 3) (opt_int Tryz.underlying3) rfl (by kernel_rfl) (opg_one (sz := 3) (opt_struct 3 Tryz.underlying63 (opg_cons (sz := 1) (sz2 := 2) (opt_int Tryz.underlying3) rfl (by kernel_rfl) (opg_cons (sz := 1) (sz2 := 1) (opt_int Tryz.underlying3) rfl (by kernel_rfl) (opg_one (sz := 1) (opt_int Tryz.underlying3) rfl (by kernel_rfl)))) (by kernel_rfl)) rfl (by kernel_rfl)))) (by kernel_rfl)) (by kernel_rfl) (by decide) (by kernel_rfl)) rfl (by kernel_rfl) (opg_cons (sz := 1) (sz2 := 1) (opt_slice 5 40 Tryz.underlying25 (opt_struct 5 Tryz.underlying65 (opg_cons (sz := 1) (sz2 := 4) (opt_bool Tryz.underlying4) rfl (by kernel_rfl) (opg_cons (sz := 1) (sz2 := 3) (opt_int Tryz.underlying3) rfl (by kernel_rfl) (opg_one (sz := 3) (opt_struct 3 Tryz.underlying63 (opg_cons (sz := 1) (sz2 := 2) (opt_int Tryz.underlying3) rfl (by kernel_rfl) (opg_cons (sz := 1) (sz2 := 1) (opt_int Tryz.underlying3) rfl (by kernel_rfl) (opg_one (sz := 1) (opt_int Tryz.underlying3) rfl (by kernel_rfl)))) (by kernel_rfl)) rfl (by kernel_rfl)))) (by kernel_rfl)) (by kernel_rfl) (by decide) (by kernel_rfl)) rfl (by kernel_rfl) (opg_one (sz := 1) (opt_string Tryz.underlying9) rfl (by kernel_rfl)))) (by kernel_rfl)) h1 hsz (j := 1) (t := 27) rfl rfl
  have T1 := arg_agg Tryz.underlying27 (hval 1 27 v1 rfl rfl) K1
  try simp only [flat_ints] at T1
  obtain ⟨x2, K2, I2⟩ := argt_cells (opt_slice 5 40 Tryz.underlying25 (opt_struct 5 Tryz.underlying65 (opg_cons (sz := 1) (sz2 := 4) (opt_bool Tryz.underlying4) rfl (by kernel_rfl) (opg_cons (sz := 1) (sz2 := 3) (opt_int Tryz.underlying3) rfl (by kernel_rfl) (opg_one (sz := 3) (opt_struct 3 Tryz.underlying63 (opg_cons (sz := 1) (sz2 := 2) (opt_int Tryz.underlying3) rfl (by kernel_rfl) (opg_cons (sz := 1) (sz2 := 1) (opt_int Tryz.underlying3) rfl (by kernel_rfl) (opg_one (sz := 1) (opt_int Tryz.underlying3) rfl (by kernel_rfl)))) (by kernel_rfl)) rfl (by kernel_rfl)))) (by kernel_rfl)) (by kernel_rfl) (by decide) (by kernel_rfl)) h2 hsz (j := 2) (t := 25) rfl rfl
  have T2 := arg_slice Tryz.underlying25 (hval 2 25 v2 rfl rfl) K2
  try simp only [flat_ints] at T2
  clear hA0 hval0 hsz0 hsz
  have hk := TopSections_true x0 x1 x2 I0 I1 I2
  refine (row_calls (lim_sound mixed pr2_ok) hk (rts_cons T0 (rts_cons T1 (rts_cons T2 rts_nil))) fn3 rfl).mono fun e W' ⟨he, bel⟩ => ?_
  subst he
  exact ⟨_, rfl, _, _, _, [], _, [], hW', trodAll_mk1 (shut_bool Tryz.underlying4 _), (trodAll_cons_mk (Below.trod laidOut (by kernel_rfl) (of_decide_eq_true (by kernel_rfl)) h0 bel lt0) (trodAll_cons_mk (Below.trod laidOut (by kernel_rfl) (of_decide_eq_true (by kernel_rfl)) h1 bel lt1) (trodAll_cons_mk (Below.trod laidOut (by kernel_rfl) (of_decide_eq_true (by kernel_rfl)) h2 bel lt2) trodAll_mk0))), rfl, bel.frame _, fun h => by cases h⟩
theorem over : Rows.topSectionsRow.holds Tryz.pinned (OpenSpec.ofChange Rows.topSectionsSpec) :=
  OpenClaim.holds_of_wide 3 Tryz.f3 rfl rfl rfl rfl rfl rfl rfl ⟨rfl, rfl, rfl, rfl, rfl⟩ rfl rfl rfl rfl rfl (by kernel_rfl) Tryz.func3 (by kernel_rfl)
    (of_decide_eq_true (by kernel_rfl)) (by unfold Func.isWrapper; first | (rw [if_pos (by decide +kernel)]; kernel_rfl) | (rw [if_neg (by decide +kernel)]; exact ⟨rfl, rfl⟩))
    (fun os started H enc _ => lifted os started H enc)
theorem proved : Rows.TopSectionsSaid := over
#print axioms proved
end Go.Proofs.YtnbijiopcgfmfaaGreat.topSections
namespace Go.Proofs.YtnbijiopcgfmfaaGreat
/-- The row, under a short name, for the claim. -/
theorem topSections_holds : Rows.TopSectionsSaid := topSections.proved
end Go.Proofs.YtnbijiopcgfmfaaGreat
