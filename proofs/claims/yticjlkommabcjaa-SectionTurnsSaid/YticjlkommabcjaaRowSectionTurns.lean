/- The law quadrat/quadratlaw06.SectionTurns: for every input the call returns true and its arguments read as before; out of the pure statement in YticjlkommabcjaaPureSectionTurns and the printed walk. No conditions. -/
import Derived.Test.YticjlkommabcjaaRows
import Derived.Test.YticjlkommabcjaaOpen
import Derived.Test.YticjlkommabcjaaPSx36
import Derived.Test.YticjlkommabcjaaPureSectionTurns
import Derived.WalkKit
import Derived.ProofKit
import Derived.OpenShut
import Derived.ShutString
import Derived.ChangeOld
import Derived.Below
import Derived.SizedLaws
import Derived.Carry
namespace Go.Proofs.Yticjlkommabcjaa.sectionTurns
open Go.ChangeShapes Go.WideShapes Go.ChangeAt Go.RowKit Go.Proofs.Yticjlkommabcjaa.Opn Go.Proofs.YticjlkommabcjaaW.PrintWords Go.Proofs.Yticjlkommabcjaa.PS
open Go.ChangeMaps (shut_string)
theorem own : ownKnob Try.prog.godebug = none := by kernel_rfl
theorem laidOut : laidOutB Try.prog = true := by kernel_rfl
theorem op31 (W : World) : Opens Try.prog W 31 k31 (fun x => ((Lit.int .i64 x.f0).wf = true) ∧ (x.f1.length * 8 ≤ 140737488351232 ∧ ∀ e0_ ∈ x.f1, (Lit.int .i64 e0_).wf = true) ∧ (x.f2.length * 8 ≤ 140737488351232 ∧ ∀ e0_ ∈ x.f2, (Lit.int .i64 e0_).wf = true)) :=
  opens_struct Try.underlying31 (opensF_cons (opens_int Try.underlying3) rfl (by kernel_rfl) (opensF_cons (opens_slice Try.underlying29 (opens_int Try.underlying3) (by kernel_rfl) (by kernel_rfl)) rfl (by kernel_rfl) (opensF_one (opens_slice Try.underlying29 (opens_int Try.underlying3) (by kernel_rfl) (by kernel_rfl)) rfl (by kernel_rfl)) rfl) rfl) (by kernel_rfl) (fun x : S31 => (x.f0, x.f1, x.f2)) (fun p : (Int) × (List Int) × (List Int) => (⟨p.1, p.2.1, p.2.2⟩ : S31)) (fun _ => rfl)
set_option maxRecDepth 100000 in
theorem lifted (os : Os) (started : os.Started) (H : Type) (enc : TypeId × Value → H) :
    ReturnsInHanded {} Try.checked os 9 .any (Rows.sectionTurnsSpec.pre6 enc Try.prog Try.f9 Rows.sectionTurnsRow.domain false) (Rows.sectionTurnsSpec.post enc Try.prog Try.f9 false true false false) := by
  refine returnsInHanded_of_change_sized (C := Try.checked) own started (by kernel_rfl) Try.func9
    (ChangeSpec.witness6 (enc := enc) (C := Try.checked) false ⟨#[], #[.agg #[.int .i64 0, .slice none 0 0, .slice none 0 0], .int .i64 0], []⟩ 8 (by kernel_rfl) (by kernel_rfl) (by kernel_rfl) (by kernel_rfl)) ?_
  intro W base args ds gs before hval0 hW hcnd hsz0 _
  have hsz : (DataW.weightsEach Try.prog (Try.f9.params.toList ++ Rows.sectionTurnsSpec.plain.varTypes Try.prog) (ds ++ gs)).all (· ≤ reachBytes) = true := hsz0
  have hval : ∀ (j : Nat) t v, Try.f9.params[j]? = some t → args[j]? = some v → Value.okWide Try.prog W .any base t v := hval0
  have hW' := hW
  obtain ⟨p, q, hA0, hV, rfl, hfz, hnd⟩ := hW
  have hA : DataW.TrodAll enc Try.prog W 0 (fun _ => true) true Try.f9.params.toList args.toList ds p := hA0
  rw [Try.params9] at hA hval hsz
  obtain ⟨v0, vs0, d0, ds0, p0, q0, hargs, rfl, rfl, h0, r0⟩ := trodAll_cons hA
  obtain ⟨v1, vs1, d1, ds1, p1, q1, rfl, rfl, rfl, h1, r1⟩ := trodAll_cons r0
  obtain ⟨rfl, rfl, rfl⟩ := trodAll_nil r1
  obtain rfl : args = #[v0, v1] := by cases args; simp_all
  obtain ⟨rfl, rfl⟩ := trodVars_none hV
  have lt0 : ∀ x ∈ p0, x.block < W.heap.size := by obtain ⟨m, hm⟩ := h0; exact DataW.trod_lt m _ _ _ hm
  have lt1 : ∀ x ∈ p1, x.block < W.heap.size := by obtain ⟨m, hm⟩ := h1; exact DataW.trod_lt m _ _ _ hm
  obtain ⟨x0, K0, I0⟩ := arg_open (op31 W) h0 hsz (j := 0) (t := 31) rfl rfl
  obtain ⟨A0_1, c0_1, A0_2, c0_2, e0, hl0_1, hC0_1, hl0_2, hC0_2⟩ := k31_open K0
  obtain rfl := agg_of Try.underlying31 (hval 0 31 v0 rfl rfl) e0
  obtain ⟨x1, K1, I1⟩ := arg_open (opens_int Try.underlying3) h1 hsz (j := 1) (t := 3) rfl rfl
  obtain ⟨n_, rfl⟩ := okWide_int Try.underlying3 (hval 1 3 v1 rfl rfl)
  obtain rfl : x1 = n_ := by have e_ : [Value.int .i64 n_] = [.int .i64 x1] := K1; simpa using e_.symm
  obtain ⟨k, hk⟩ := Pure.SectionTurns x0 x1 I0 I1
  clear hA0 hval0 hsz0 hsz
  refine (quadratlaw06_SectionTurns.calls k x0.f0 A0_1 c0_1 x0.f1 A0_2 c0_2 x0.f2 x1 true W hC0_1 hl0_1 hC0_2 hl0_2 rfl hk).mono fun e W' ⟨he, bel0⟩ => ?_
  have bel : Below W.heap.size W W' := bel0
  subst he
  exact ⟨_, rfl, _, _, _, [], _, [], hW', trodAll_mk1 (shut_bool Try.underlying4 _), (trodAll_cons_mk (Below.trod laidOut (by kernel_rfl) (of_decide_eq_true (by kernel_rfl)) h0 bel lt0) (trodAll_cons_mk (Below.trod laidOut (by kernel_rfl) (of_decide_eq_true (by kernel_rfl)) h1 bel lt1) trodAll_mk0)), rfl, bel.frame _, fun h => by cases h⟩
theorem over : Rows.sectionTurnsRow.holds Try.pinned (OpenSpec.ofChange Rows.sectionTurnsSpec) :=
  OpenClaim.holds_of_wide 9 Try.f9 rfl rfl rfl rfl rfl rfl rfl ⟨rfl, rfl, rfl, rfl, rfl⟩ rfl rfl rfl rfl rfl (by kernel_rfl) Try.func9 (by kernel_rfl)
    (of_decide_eq_true (by kernel_rfl)) (by unfold Func.isWrapper; first | (rw [if_pos (by decide +kernel)]; kernel_rfl) | (rw [if_neg (by decide +kernel)]; exact ⟨rfl, rfl⟩))
    (fun os started H enc _ => lifted os started H enc)
theorem proved : Rows.SectionTurnsSaid := over
#print axioms proved
end Go.Proofs.Yticjlkommabcjaa.sectionTurns
namespace Go.Proofs.Yticjlkommabcjaa
/-- The row, under a short name, for the claim. -/
theorem sectionTurns_holds : Rows.SectionTurnsSaid := sectionTurns.proved
end Go.Proofs.Yticjlkommabcjaa
