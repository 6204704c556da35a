/- The law quadrat/quadratlaw22.GuardOnes: for every input the call returns true and its arguments read as before; out of the pure statement in YtopnopepcpepbaaPureGuardOnes and the printed walk. No conditions. -/
import Derived.Test.YtopnopepcpepbaaRows
import Derived.Test.YtopnopepcpepbaaOpen
import Derived.Test.YtopnopepcpepbaaPGx21
import Derived.Test.YtopnopepcpepbaaPureGuardOnes
import Derived.WalkKit
import Derived.ProofKit
import Derived.OpenShut
import Derived.ShutString
import Derived.ChangeOld
import Derived.Below
import Derived.SizedLaws
import Derived.Carry
namespace Go.Proofs.Ytopnopepcpepbaa.guardOnes
open Go.ChangeShapes Go.WideShapes Go.ChangeAt Go.RowKit Go.Proofs.Ytopnopepcpepbaa.Opn Go.Proofs.YtopnopepcpepbaaW.PrintWords Go.Proofs.Ytopnopepcpepbaa.PG
open Go.ChangeMaps (shut_string)
theorem own : ownKnob Try.prog.godebug = none := by kernel_rfl
theorem laidOut : laidOutB Try.prog = true := by kernel_rfl
theorem op23 (W : World) : Opens Try.prog W 23 k23 (fun x => ((Lit.int .i64 x.f0).wf = true) ∧ ((Lit.int .i64 x.f1).wf = true) ∧ ((Lit.int .i64 x.f2).wf = true) ∧ ((Lit.int .i64 x.f3).wf = true)) :=
  opens_struct Try.underlying23 (opensF_cons (opens_int Try.underlying3) rfl (by kernel_rfl) (opensF_cons (opens_int Try.underlying3) rfl (by kernel_rfl) (opensF_cons (opens_int Try.underlying3) rfl (by kernel_rfl) (opensF_one (opens_int Try.underlying3) rfl (by kernel_rfl)) rfl) rfl) rfl) (by kernel_rfl) (fun x : S23 => (x.f0, x.f1, x.f2, x.f3)) (fun p : (Int) × (Int) × (Int) × (Int) => (⟨p.1, p.2.1, p.2.2.1, p.2.2.2⟩ : S23)) (fun _ => rfl)
theorem op25 (W : World) : Opens Try.prog W 25 k25 (fun x => ((Lit.int .i64 x.f0).wf = true) ∧ ((Lit.int .i64 x.f1).wf = true) ∧ ((Lit.int .i64 x.f2).wf = true)) :=
  opens_struct Try.underlying25 (opensF_cons (opens_int Try.underlying3) rfl (by kernel_rfl) (opensF_cons (opens_int Try.underlying3) rfl (by kernel_rfl) (opensF_one (opens_int Try.underlying3) rfl (by kernel_rfl)) rfl) rfl) (by kernel_rfl) (fun x : S25 => (x.f0, x.f1, x.f2)) (fun p : (Int) × (Int) × (Int) => (⟨p.1, p.2.1, p.2.2⟩ : S25)) (fun _ => rfl)
set_option maxRecDepth 100000 in
theorem lifted (os : Os) (started : os.Started) (H : Type) (enc : TypeId × Value → H) :
    ReturnsInHanded {} Try.checked os 7 .any (Rows.guardOnesSpec.pre6 enc Try.prog Try.f7 Rows.guardOnesRow.domain false) (Rows.guardOnesSpec.post enc Try.prog Try.f7 false true false false) := by
  refine returnsInHanded_of_change_sized (C := Try.checked) own started (by kernel_rfl) Try.func7
    (ChangeSpec.witness6 (enc := enc) (C := Try.checked) false ⟨#[], #[.agg #[.int .i64 0, .int .i64 0, .int .i64 0, .int .i64 0], .agg #[.int .i64 0, .int .i64 0, .int .i64 0]], []⟩ 8 (by kernel_rfl) (by kernel_rfl) (by kernel_rfl) (by kernel_rfl)) ?_
  intro W base args ds gs before hval0 hW hcnd hsz0 _
  have hsz : (DataW.weightsEach Try.prog (Try.f7.params.toList ++ Rows.guardOnesSpec.plain.varTypes Try.prog) (ds ++ gs)).all (· ≤ reachBytes) = true := hsz0
  have hval : ∀ (j : Nat) t v, Try.f7.params[j]? = some t → args[j]? = some v → Value.okWide Try.prog W .any base t v := hval0
  have hW' := hW
  obtain ⟨p, q, hA0, hV, rfl, hfz, hnd⟩ := hW
  have hA : DataW.TrodAll enc Try.prog W 0 (fun _ => true) true Try.f7.params.toList args.toList ds p := hA0
  rw [Try.params7] at hA hval hsz
  obtain ⟨v0, vs0, d0, ds0, p0, q0, hargs, rfl, rfl, h0, r0⟩ := trodAll_cons hA
  obtain ⟨v1, vs1, d1, ds1, p1, q1, rfl, rfl, rfl, h1, r1⟩ := trodAll_cons r0
  obtain ⟨rfl, rfl, rfl⟩ := trodAll_nil r1
  obtain rfl : args = #[v0, v1] := by cases args; simp_all
  obtain ⟨rfl, rfl⟩ := trodVars_none hV
  have lt0 : ∀ x ∈ p0, x.block < W.heap.size := by obtain ⟨m, hm⟩ := h0; exact DataW.trod_lt m _ _ _ hm
  have lt1 : ∀ x ∈ p1, x.block < W.heap.size := by obtain ⟨m, hm⟩ := h1; exact DataW.trod_lt m _ _ _ hm
  obtain ⟨x0, K0, I0⟩ := arg_open (op23 W) h0 hsz (j := 0) (t := 23) rfl rfl
  have e0 := k23_open K0
  obtain rfl := agg_of Try.underlying23 (hval 0 23 v0 rfl rfl) e0
  obtain ⟨x1, K1, I1⟩ := arg_open (op25 W) h1 hsz (j := 1) (t := 25) rfl rfl
  have e1 := k25_open K1
  obtain rfl := agg_of Try.underlying25 (hval 1 25 v1 rfl rfl) e1
  obtain ⟨k, hk⟩ := Pure.GuardOnes x0 x1 I0 I1
  clear hA0 hval0 hsz0 hsz
  refine (quadratlaw22_GuardOnes.calls k x0.f0 x0.f1 x0.f2 x0.f3 x1.f0 x1.f1 x1.f2 true W  rfl hk).mono fun e W' ⟨he, bel0⟩ => ?_
  have bel : Below W.heap.size W W' := bel0
  subst he
  exact ⟨_, rfl, _, _, _, [], _, [], hW', trodAll_mk1 (shut_bool Try.underlying4 _), (trodAll_cons_mk (Below.trod laidOut (by kernel_rfl) (of_decide_eq_true (by kernel_rfl)) h0 bel lt0) (trodAll_cons_mk (Below.trod laidOut (by kernel_rfl) (of_decide_eq_true (by kernel_rfl)) h1 bel lt1) trodAll_mk0)), rfl, bel.frame _, fun h => by cases h⟩
theorem over : Rows.guardOnesRow.holds Try.pinned (OpenSpec.ofChange Rows.guardOnesSpec) :=
  OpenClaim.holds_of_wide 7 Try.f7 rfl rfl rfl rfl rfl rfl rfl ⟨rfl, rfl, rfl, rfl, rfl⟩ rfl rfl rfl rfl rfl (by kernel_rfl) Try.func7 (by kernel_rfl)
    (of_decide_eq_true (by kernel_rfl)) (by unfold Func.isWrapper; first | (rw [if_pos (by decide +kernel)]; kernel_rfl) | (rw [if_neg (by decide +kernel)]; exact ⟨rfl, rfl⟩))
    (fun os started H enc _ => lifted os started H enc)
theorem proved : Rows.GuardOnesSaid := over
#print axioms proved
end Go.Proofs.Ytopnopepcpepbaa.guardOnes
namespace Go.Proofs.Ytopnopepcpepbaa
/-- The row, under a short name, for the claim. -/
theorem guardOnes_holds : Rows.GuardOnesSaid := guardOnes.proved
end Go.Proofs.Ytopnopepcpepbaa
