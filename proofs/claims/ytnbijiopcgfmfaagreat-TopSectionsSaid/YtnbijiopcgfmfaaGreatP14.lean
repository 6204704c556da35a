/- Part 14: CAw3, CAw4, CTSec, CTSe2, CTSe3, LTSec. -/
import Derived.Test.YtnbijiopcgfmfaaGreatP13
/- Awake of the arrays' laws. -/
namespace Go.Proofs.YtnbijiopcgfmfaaGreat.Tev
open Go Go.RowKit Go.Proofs Go.Proofs.YtnbijiopcgfmfaaGreat.Q
set_option linter.unusedSectionVars false
set_option maxRecDepth 100000
set_option maxHeartbeats 0
set_option linter.unusedSimpArgs false
set_option linter.unusedVariables false
theorem nm_max : ¬ (⟨#[109, 97, 116, 109, 117, 108]⟩ : ByteArray) = ⟨#[109, 97, 120]⟩ := by decide
theorem nm_min : ¬ (⟨#[109, 97, 116, 109, 117, 108]⟩ : ByteArray) = ⟨#[109, 105, 110]⟩ := by decide
theorem nm_mod : ¬ (⟨#[109, 97, 116, 109, 117, 108]⟩ : ByteArray) = ⟨#[109, 111, 100]⟩ := by decide
theorem nm_cshift : ¬ (⟨#[109, 97, 116, 109, 117, 108]⟩ : ByteArray) = ⟨#[99, 115, 104, 105, 102, 116]⟩ := by decide
theorem nm_pack : ¬ (⟨#[109, 97, 116, 109, 117, 108]⟩ : ByteArray) = ⟨#[112, 97, 99, 107]⟩ := by decide
theorem nm_reshape : ¬ (⟨#[109, 97, 116, 109, 117, 108]⟩ : ByteArray) = ⟨#[114, 101, 115, 104, 97, 112, 101]⟩ := by decide
theorem nm_spread : ¬ (⟨#[109, 97, 116, 109, 117, 108]⟩ : ByteArray) = ⟨#[115, 112, 114, 101, 97, 100]⟩ := by decide
theorem nm_merge : ¬ (⟨#[109, 97, 116, 109, 117, 108]⟩ : ByteArray) = ⟨#[109, 101, 114, 103, 101]⟩ := by decide
theorem nm_abs : ¬ (⟨#[109, 97, 116, 109, 117, 108]⟩ : ByteArray) = ⟨#[97, 98, 115]⟩ := by decide
theorem nm_int : ¬ (⟨#[109, 97, 116, 109, 117, 108]⟩ : ByteArray) = ⟨#[105, 110, 116]⟩ := by decide
theorem nm_real : ¬ (⟨#[109, 97, 116, 109, 117, 108]⟩ : ByteArray) = ⟨#[114, 101, 97, 108]⟩ := by decide
theorem nm_dble : ¬ (⟨#[109, 97, 116, 109, 117, 108]⟩ : ByteArray) = ⟨#[100, 98, 108, 101]⟩ := by decide
theorem nm_sqrt : ¬ (⟨#[109, 97, 116, 109, 117, 108]⟩ : ByteArray) = ⟨#[115, 113, 114, 116]⟩ := by decide
theorem nm_sum : ¬ (⟨#[109, 97, 116, 109, 117, 108]⟩ : ByteArray) = ⟨#[115, 117, 109]⟩ := by decide
theorem nm_product : ¬ (⟨#[109, 97, 116, 109, 117, 108]⟩ : ByteArray) = ⟨#[112, 114, 111, 100, 117, 99, 116]⟩ := by decide
theorem nm_maxval : ¬ (⟨#[109, 97, 116, 109, 117, 108]⟩ : ByteArray) = ⟨#[109, 97, 120, 118, 97, 108]⟩ := by decide
theorem nm_minval : ¬ (⟨#[109, 97, 116, 109, 117, 108]⟩ : ByteArray) = ⟨#[109, 105, 110, 118, 97, 108]⟩ := by decide
theorem nm_all : ¬ (⟨#[109, 97, 116, 109, 117, 108]⟩ : ByteArray) = ⟨#[97, 108, 108]⟩ := by decide
theorem nm_any : ¬ (⟨#[109, 97, 116, 109, 117, 108]⟩ : ByteArray) = ⟨#[97, 110, 121]⟩ := by decide
theorem nm_count : ¬ (⟨#[109, 97, 116, 109, 117, 108]⟩ : ByteArray) = ⟨#[99, 111, 117, 110, 116]⟩ := by decide
theorem nm_size : ¬ (⟨#[109, 97, 116, 109, 117, 108]⟩ : ByteArray) = ⟨#[115, 105, 122, 101]⟩ := by decide
theorem nm_shape : ¬ (⟨#[109, 97, 116, 109, 117, 108]⟩ : ByteArray) = ⟨#[115, 104, 97, 112, 101]⟩ := by decide
theorem nm_maxloc : ¬ (⟨#[109, 97, 116, 109, 117, 108]⟩ : ByteArray) = ⟨#[109, 97, 120, 108, 111, 99]⟩ := by decide
theorem nm_minloc : ¬ (⟨#[109, 97, 116, 109, 117, 108]⟩ : ByteArray) = ⟨#[109, 105, 110, 108, 111, 99]⟩ := by decide
theorem nm_transpose : ¬ (⟨#[109, 97, 116, 109, 117, 108]⟩ : ByteArray) = ⟨#[116, 114, 97, 110, 115, 112, 111, 115, 101]⟩ := by decide
abbrev A0 : T := .agg [I 1, SL true none 2 (ints [2, 2]), SL true none 4 (ints [1, 2, 3, 4])]
abbrev B0 : T := .agg [I 1, SL true none 1 [CI 2], SL true none 2 (ints [5, 6])]
abbrev mmR : R := (.tup [.agg [I 1, .c (.s none 1 [CI 2]), .sl 0 0 2 1 none], I 0], [[CI 23, CI 34]])
theorem mLoops (id : Nat) : findLoop id mB = none := by kernel_rfl
theorem mGood : ∀ c ∈ [m0, m1, m2, m3, mRest], (∀ b ∈ loopsOf c, b ∈ loopsOf mB) ∧ okCode Tryz.f65.ntmps c = true := by
  have h : ∀ c ∈ [m0, m1, m2, m3, mRest], loopsOf c = [] ∧ okCode Tryz.f65.ntmps c = true := by
    intro c hc
    simp only [List.mem_cons, List.not_mem_nil, or_false] at hc
    rcases hc with rfl | rfl | rfl | rfl | rfl <;> exact ⟨by kernel_rfl, by kernel_rfl⟩
  exact fun c hc => ⟨fun b hb => by rw [(h c hc).1] at hb; simp at hb, (h c hc).2⟩
theorem mm_each : CALL1 21 [I 1, SL true none 1 [CI 2], .fn 85 [IntU 2, IntU 1, IntU 2, ArU 1 true none [2, 2] true none [1, 2, 3, 4], ArU 1 true none [2] true none [5, 6]]] = some mmR := by
  have hc : Shut [IntU 2, IntU 1, IntU 2, ArU 1 true none [2, 2] true none [1, 2, 3, 4], ArU 1 true none [2] true none [5, 6]] := fun x h => by
    simp only [List.mem_cons, List.not_mem_nil, or_false] at h
    rcases h with rfl | rfl | rfl | rfl | rfl <;> exact .inl ⟨_, _, rfl⟩
  exact (s_each 85 _ hc 1 [2] 2 (fun _ => 1) awN (fun _ => 0) (fun i hi => s_mm1 i hi) rfl (by simp)).1 fun _ _ => rfl
theorem mm_kind : CALL1 19 [Str ⟨#[42]⟩, I 1, I 1] = some (I 1, []) := by
  have h := old1 (by decide) (a_Kind ⟨#[42]⟩ 1 1 (by decide))
  rw [show kindQ ⟨#[42]⟩ 1 1 = 1 from by unfold kindQ; rw [if_pos ⟨by simp [ariL, sMul], .inl rfl, .inl rfl⟩]; rfl] at h
  exact h
theorem mm_R : CallsR E0.P 65 [A0, B0] mmR := by
  have hlp : ∀ w0 F0, LoopOK E0 Tryz.f65.ntmps w0 F0 mB ((lim E0 pr1).loop 65) := fun w0 F0 id S e S' h b hb => by
    rw [mLoops id] at hb; simp at hb
  have hnd : nodupB ((loopsOf mB).map firstId) = true := by kernel_rfl
  have g0 := mGood m0 (by simp)
  have g1 := mGood m1 (by simp)
  have g2 := mGood m2 (by simp)
  have g3 := mGood m3 (by simp)
  have g4 := mGood mRest (by simp)
  have hk := mm_kind
  have he : CALL1 21 [I 1, SL true none 1 [CI 2], .fn 85 [IntU 2, IntU 1, IntU 2, .rb [.c (CI 1), US true none 2 (ints [2, 2]), US true none 4 (ints [1, 2, 3, 4])] 0, .rb [.c (CI 1), US true none 1 [CI 2], US true none 2 (ints [5, 6])] 0]] = some mmR := mm_each
  have hz := fun b c => old1 (by decide) (a_size b c [2] (by simp))
  have hz : ∀ b c, CALL1 13 [SL b c 1 [CI 2]] = some (I 2, []) := hz
  have d0 : ([2, 2] : List Int).getD 0 0 = 2 := rfl
  have d1 : ([2, 2] : List Int).getD 1 0 = 2 := rfl
  have H : ∃ SA : St, exec E0 (lim E0 pr1) 65 .nor ([m0, m1, m2, m3].map It.code) ⟨params 0 [A0, B0], [], 0⟩ = some (.nor, SA) ∧ MR0 none (SL true none 2 (ints [5, 6])) SA ∧ (∀ t, (9 ≤ t ∧ t < 12) ∨ (63 ≤ t ∧ t < 67) → get SA.t t = .junk) ∧
      (∃ SB : St, exec E0 (lim E0 pr1) 65 .nor ([mRest].map It.code) ⟨(9, .pt SA.n 0) :: (10, I 1) :: (11, .pt (SA.n + 1) 0) :: SA.t, (SA.n + 1, .box [I 2]) :: (SA.n, .box [I 1]) :: SA.o, SA.n + 2⟩ = some (.ret, SB) ∧
        retT E0.P Tryz.f65.results.toList Tryz.f65.resultTypes.toList SB = some mmR) ∧
      (∃ SB : St, exec E0 (lim E0 pr1) 65 .nor ([mRest].map It.code) ⟨(9, .pt (SA.n + 1) 0) :: (10, I 1) :: (11, .pt SA.n 0) :: SA.t, (SA.n + 1, .box [I 1]) :: (SA.n, .box [I 2]) :: SA.o, SA.n + 2⟩ = some (.ret, SB) ∧
        retT E0.P Tryz.f65.results.toList Tryz.f65.resultTypes.toList SB = some mmR) := by
    apply Exists.intro
    apply And.intro
    · simp (config := { maxSteps := 1000000 }) (disch := omega) only [push_cast, ↓reduceIte, Nat.reduceEqDiff, Nat.reduceAdd, Nat.reduceLT, Nat.reduceLeDiff, Nat.reduceBEq, Nat.reduceMul, Nat.reduceSub, Int.reduceToNat, Int.reduceEq, Int.reduceLT, Int.reduceLE, Int.reduceNeg, Int.reduceAdd, Int.reduceSub, Int.reduceMul, Tryz.f65, kr65, ty3, ty22, ty24, ty34, m0, m1, m2, m3, mB, codeOf, Option.getD_some, List.map_cons, List.map_nil, sA, sB, hk, d0, d1, ne_eq]
      rfl
    refine ⟨⟨rfl, rfl, by decide⟩, fun t h => ?_, ?_, ?_⟩
    · simp only [get]
      repeat rw [if_neg (by omega)]
    · apply Exists.intro
      apply And.intro
      · simp (config := { maxSteps := 1000000 }) (disch := omega) only [push_cast, ↓reduceIte, Nat.reduceEqDiff, Nat.reduceAdd, Nat.reduceLT, Nat.reduceLeDiff, Nat.reduceBEq, Nat.reduceMul, Nat.reduceSub, Int.reduceToNat, Int.reduceEq, Int.reduceLT, Int.reduceLE, Int.reduceNeg, Int.reduceAdd, Int.reduceSub, Int.reduceMul, Tryz.f65, kr65, ty3, ty22, ty24, ty34, mRest, mB, codeOf, Option.getD_some, List.map_cons, List.map_nil, sA, sB, hz, he, d0, d1, ne_eq]
        rfl
      · simp (config := { maxSteps := 1000000 }) (disch := omega) only [push_cast, ↓reduceIte, Nat.reduceEqDiff, Nat.reduceAdd, Nat.reduceLT, Nat.reduceLeDiff, Nat.reduceBEq, Nat.reduceMul, Nat.reduceSub, Int.reduceToNat, Int.reduceEq, Int.reduceLT, Int.reduceLE, Int.reduceNeg, Int.reduceAdd, Int.reduceSub, Int.reduceMul, Tryz.f65, kr65, ty3, ty22, ty24, ty34, retT, expC_s0]
    · apply Exists.intro
      apply And.intro
      · simp (config := { maxSteps := 1000000 }) (disch := omega) only [push_cast, ↓reduceIte, Nat.reduceEqDiff, Nat.reduceAdd, Nat.reduceLT, Nat.reduceLeDiff, Nat.reduceBEq, Nat.reduceMul, Nat.reduceSub, Int.reduceToNat, Int.reduceEq, Int.reduceLT, Int.reduceLE, Int.reduceNeg, Int.reduceAdd, Int.reduceSub, Int.reduceMul, Tryz.f65, kr65, ty3, ty22, ty24, ty34, mRest, mB, codeOf, Option.getD_some, List.map_cons, List.map_nil, sA, sB, hz, he, d0, d1, ne_eq]
        rfl
      · simp (config := { maxSteps := 1000000 }) (disch := omega) only [push_cast, ↓reduceIte, Nat.reduceEqDiff, Nat.reduceAdd, Nat.reduceLT, Nat.reduceLeDiff, Nat.reduceBEq, Nat.reduceMul, Nat.reduceSub, Int.reduceToNat, Int.reduceEq, Int.reduceLT, Int.reduceLE, Int.reduceNeg, Int.reduceAdd, Int.reduceSub, Int.reduceMul, Tryz.f65, kr65, ty3, ty22, ty24, ty34, retT, expC_s0]
  obtain ⟨SA, hA, h0, hj, ⟨S1, e1, r1⟩, S2, e2, r2⟩ := H
  refine walk_fun (E := E0) fn65 (by kernel_rfl) (show Tryz.f65.body = some mB by kernel_rfl) (Nat.le_of_ble_eq_true (by kernel_rfl)) fun w F => ?_
  rw [show ([mB] : List Code) = [Code.seq m0 (.seq m1 (.seq m2 (.seq m3 (.seq mR mRest))))] from congrArg (fun c => [c]) mB_eq]
  refine walk_assoc [] (walk_assoc [m0] (walk_assoc [m0, m1] (walk_assoc [m0, m1, m2] (walk_assoc [m0, m1, m2, m3] ?_))))
  refine walk_list (l := mR :: ([mRest] ++ [])) mixed (lim_sound mixed pr1_ok) hlp hnd [m0, m1, m2, m3] (fun c hc => mGood c (by simp only [List.mem_cons, List.not_mem_nil, or_false] at hc ⊢; rcases hc with h | h | h | h <;> simp [h])) hA ?_
  refine walk_mR (lim_sound mixed pr1_ok) h0 hj ?_ ?_
  · exact walk_list (l := []) mixed (lim_sound mixed pr1_ok) hlp hnd [mRest] (fun c hc => mGood c (by simp only [List.mem_cons, List.not_mem_nil, or_false] at hc ⊢; exact .inr (.inr (.inr (.inr hc))))) e1 ⟨.inr rfl, r1⟩
  · exact walk_list (l := []) mixed (lim_sound mixed pr1_ok) hlp hnd [mRest] (fun c hc => mGood c (by simp only [List.mem_cons, List.not_mem_nil, or_false] at hc ⊢; exact .inr (.inr (.inr (.inr hc))))) e2 ⟨.inr rfl, r2⟩
end Go.Proofs.YtnbijiopcgfmfaaGreat.Tev
/- Awake of the arrays' laws, told. -/
namespace Go.Proofs.YtnbijiopcgfmfaaGreat.Tev
open Go Go.RowKit Go.Proofs Go.Proofs.YtnbijiopcgfmfaaGreat.Q
set_option linter.unusedSectionVars false
set_option maxRecDepth 100000
set_option maxHeartbeats 0
set_option linter.unusedSimpArgs false
set_option linter.unusedVariables false
def NEWM : List Nat := [39, 17, 5]
def SpM (f : FuncId) (xs : List T) (r : R) : Prop := f = 65 ∧ xs = [A0, B0] ∧ r = mmR
theorem SpM_ok (f : FuncId) (xs : List T) (r : R) (h : SpM f xs r) : CallsR E0.P f xs r := by
  obtain ⟨rfl, rfl, rfl⟩ := h
  exact mm_R
noncomputable def prM : FuncId → List T → Option R := relP SpM (butP NEWM CALL1)
theorem prM_ok : CallOK E0.P prM := relP_ok SpM_ok (butP_ok (lim_sound mixed pr1_ok))
noncomputable abbrev CALLM := (lim E0 prM).call
theorem SpM_not {f : FuncId} (h : f ≠ 65) (xs : List T) (r : R) : ¬ SpM f xs r := fun q => h q.1
theorem prM_none {f : FuncId} (h : f ≠ 65 ∧ f ∈ NEWM) (xs : List T) : prM f xs = none := (relP_none (SpM_not h.1 xs)).trans (if_pos h.2)
theorem oldM {f : FuncId} {xs : List T} {r : R} (h : f ≠ 65 ∧ f ∉ NEWM) (hc : CALL1 f xs = some r) : CALLM f xs = some r :=
  lim_pr ((relP_none (SpM_not h.1 xs)).trans ((if_neg h.2).trans hc))
theorem upM {f : FuncId} {xs : List T} {r : R} (h : (f ≠ 65 ∧ f ∉ NEWM) ∧ f ≠ 46 ∧ f ∉ NEW) (hc : CALL f xs = some r) : CALLM f xs = some r := oldM h.1 (old1 h.2 hc)
theorem sM_matmul : CALLM 65 [A0, B0] = some mmR :=
  lim_pr (relP_of ⟨rfl, rfl, rfl⟩ fun r' h' => h'.2.2)
abbrev ABrow : List C := [CI 1, .s none 2 (ints [2, 2]), .s none 4 (ints [1, 2, 3, 4]), CI 1, .s none 1 [CI 2], .s none 2 (ints [5, 6])]
theorem vA0 : CALL 4 [A0] = some (B true, []) := by
  have h := a_Valid 1 true true none none [2, 2] [1, 2, 3, 4] (by simp) (by simp)
  rw [decide_eq_true (show okA 1 [2, 2] [1, 2, 3, 4] from by unfold okA fitsQ; decide)] at h
  exact h
theorem vB0 : CALL 4 [B0] = some (B true, []) := by
  have h := a_Valid 1 true true none none [2] [5, 6] (by simp) (by simp)
  rw [decide_eq_true (show okA 1 [2] [5, 6] from by unfold okA fitsQ; decide)] at h
  exact h
theorem vcA : CALL 35 [A0] = some (B false, []) := by
  have h := vA0
  refine lim_run (fn := Tryz.f35) fn35 rfl body35 (Nat.le_of_ble_eq_true rfl) ok35 ?_
  simp (config := { maxSteps := 1000000 }) (disch := omega) only [push_cast, ↓reduceIte, Nat.reduceEqDiff, Nat.reduceAdd, Nat.reduceLT, Nat.reduceLeDiff, Nat.reduceBEq, Nat.reduceMul, Nat.reduceSub, Int.reduceToNat, Int.reduceEq, Int.reduceLT, Int.reduceLE, Int.reduceNeg, Int.reduceAdd, Int.reduceSub, Int.reduceMul, Tryz.f35, kr35, ty3, ty4, ty22, ty24, tb4, h]
theorem vcB : CALL 35 [B0] = some (B false, []) := by
  have h := vB0
  refine lim_run (fn := Tryz.f35) fn35 rfl body35 (Nat.le_of_ble_eq_true rfl) ok35 ?_
  simp (config := { maxSteps := 1000000 }) (disch := omega) only [push_cast, ↓reduceIte, Nat.reduceEqDiff, Nat.reduceAdd, Nat.reduceLT, Nat.reduceLeDiff, Nat.reduceBEq, Nat.reduceMul, Nat.reduceSub, Int.reduceToNat, Int.reduceEq, Int.reduceLT, Int.reduceLE, Int.reduceNeg, Int.reduceAdd, Int.reduceSub, Int.reduceMul, Tryz.f35, kr35, ty3, ty4, ty22, ty24, tb4, h]
theorem vIdx (b : Bool) (c : Option Nat) : CALL 56 [SL b c 2 ABrow, .fn 35 []] = some (I (-1), []) := by
  have h1 := vcA
  have h2 := vcB
  refine lim_run (fn := Tryz.f56) fn56 rfl body56 (Nat.le_of_ble_eq_true rfl) ok56 ?_
  simp (config := { maxSteps := 1000000 }) (disch := omega) only [push_cast, ↓reduceIte, Nat.reduceEqDiff, Nat.reduceAdd, Nat.reduceLT, Nat.reduceLeDiff, Nat.reduceBEq, Nat.reduceMul, Nat.reduceSub, Int.reduceToNat, Int.reduceEq, Int.reduceLT, Int.reduceLE, Int.reduceNeg, Int.reduceAdd, Int.reduceSub, Int.reduceMul, Tryz.f56, kr56, kp56_2, ow56_2, ty3, ty22, ty24, ty53, h1, h2, fun S0 => lp_eq (S0 := S0) (pr := pr0) lp56_2]
theorem vCont (b : Bool) (c : Option Nat) : CALL 34 [SL b c 2 ABrow, .fn 35 []] = some (B false, []) := by
  have h := vIdx
  refine lim_run (fn := Tryz.f34) fn34 rfl body34 (Nat.le_of_ble_eq_true rfl) ok34 ?_
  simp (config := { maxSteps := 1000000 }) (disch := omega) only [push_cast, ↓reduceIte, Nat.reduceEqDiff, Nat.reduceAdd, Nat.reduceLT, Nat.reduceLeDiff, Nat.reduceBEq, Nat.reduceMul, Nat.reduceSub, Int.reduceToNat, Int.reduceEq, Int.reduceLT, Int.reduceLE, Int.reduceNeg, Int.reduceAdd, Int.reduceSub, Int.reduceMul, Tryz.f34, kr34, ty4, tb4, h]
abbrev sMm : T := Str ⟨#[109, 97, 116, 109, 117, 108]⟩
theorem vArity : CALL 33 [sMm] = some (.tup [I 2, I 2], []) := by
  refine lim_run (fn := Tryz.f33) fn33 rfl body33 (Nat.le_of_ble_eq_true rfl) ok33 ?_
  simp (config := { maxSteps := 1000000 }) (disch := omega) only [push_cast, ↓reduceIte, Nat.reduceEqDiff, Nat.reduceAdd, Nat.reduceLT, Nat.reduceLeDiff, Nat.reduceBEq, Nat.reduceMul, Nat.reduceSub, Int.reduceToNat, Int.reduceEq, Int.reduceLT, Int.reduceLE, Int.reduceNeg, Int.reduceAdd, Int.reduceSub, Int.reduceMul, Tryz.f33, kr33, ty3, nm_max, nm_min, nm_mod, nm_cshift, nm_pack, nm_reshape, nm_spread, nm_merge, nm_abs, nm_int, nm_real, nm_dble, nm_sqrt, nm_sum, nm_product, nm_maxval, nm_minval, nm_all, nm_any, nm_count, nm_size, nm_shape, nm_maxloc, nm_minloc, nm_transpose]
theorem vReshapes (b : Bool) (c : Option Nat) : CALLM 39 [sMm, SL b c 2 ABrow] = some mmR := by
  have h := sM_matmul
  refine lim_run (fn := Tryz.f39) fn39 (prM_none (by decide) _) body39 (Nat.le_of_ble_eq_true rfl) ok39 ?_
  simp (config := { maxSteps := 1000000 }) (disch := omega) only [push_cast, ↓reduceIte, Nat.reduceEqDiff, Nat.reduceAdd, Nat.reduceLT, Nat.reduceLeDiff, Nat.reduceBEq, Nat.reduceMul, Nat.reduceSub, Int.reduceToNat, Int.reduceEq, Int.reduceLT, Int.reduceLE, Int.reduceNeg, Int.reduceAdd, Int.reduceSub, Int.reduceMul, Tryz.f39, kr39, kp39_13, kp39_10, ow39_13, ow39_10, ty3, ty22, ty24, ty34, ty53, h, expC_s0, nm_max, nm_min, nm_mod, nm_cshift, nm_pack, nm_reshape, nm_spread, nm_merge, nm_abs, nm_int, nm_real, nm_dble, nm_sqrt, nm_sum, nm_product, nm_maxval, nm_minval, nm_all, nm_any, nm_count, nm_size, nm_shape, nm_maxloc, nm_minloc, nm_transpose]
theorem vCall (b : Bool) (c : Option Nat) : CALLM 17 [sMm, SL b c 2 ABrow] = some mmR := by
  have h1 := upM (by decide) vArity
  have h2 := fun b c => upM (by decide) (vCont b c)
  have h3 := vReshapes
  refine lim_run (fn := Tryz.f17) fn17 (prM_none (by decide) _) body17 (Nat.le_of_ble_eq_true rfl) ok17 ?_
  simp (config := { maxSteps := 1000000 }) (disch := omega) only [push_cast, ↓reduceIte, Nat.reduceEqDiff, Nat.reduceAdd, Nat.reduceLT, Nat.reduceLeDiff, Nat.reduceBEq, Nat.reduceMul, Nat.reduceSub, Int.reduceToNat, Int.reduceEq, Int.reduceLT, Int.reduceLE, Int.reduceNeg, Int.reduceAdd, Int.reduceSub, Int.reduceMul, Tryz.f17, kr17, ty3, ty22, ty24, ty34, ty53, h1, h2, h3, expC_s0, nm_max, nm_min, nm_mod, nm_cshift, nm_pack, nm_reshape, nm_spread, nm_merge, nm_abs, nm_int, nm_real, nm_dble, nm_sqrt, nm_sum, nm_product, nm_maxval, nm_minval, nm_all, nm_any, nm_count, nm_size, nm_shape, nm_maxloc, nm_minloc, nm_transpose]
theorem vAwake : CALLM 5 [] = some (B true, []) := by
  have h : ∀ b c, CALLM 17 [sMm, SL b c 2 [CI 1, .s none 2 [CI 2, CI 2], .s none 4 [CI 1, CI 2, CI 3, CI 4], CI 1, .s none 1 [CI 2], .s none 2 [CI 5, CI 6]]] = some mmR := vCall
  refine lim_run (fn := Tryz.f5) fn5 (prM_none (by decide) _) body5 (Nat.le_of_ble_eq_true rfl) ok5 ?_
  simp (config := { maxSteps := 1000000 }) (disch := omega) only [push_cast, ↓reduceIte, Nat.reduceEqDiff, Nat.reduceAdd, Nat.reduceLT, Nat.reduceLeDiff, Nat.reduceBEq, Nat.reduceMul, Nat.reduceSub, Int.reduceToNat, Int.reduceEq, Int.reduceLT, Int.reduceLE, Int.reduceNeg, Int.reduceAdd, Int.reduceSub, Int.reduceMul, Tryz.f5, kr5, ty3, ty4, ty22, ty24, ty53, tb4, h, rowAt_6]
theorem awake_R : CallsR E0.P 5 [] (B true, []) := by
  rcases lim_sound mixed prM_ok _ _ _ vAwake with h | ⟨⟨fn', h1, h2⟩, _⟩
  · exact h
  · rw [fn5] at h1
    obtain rfl := Option.some.inj h1
    exact absurd (show Tryz.f5.body.isNone = false by kernel_rfl) (by rw [h2]; decide)
/-! The last layer: TopSections with Awake told. -/
def NEW2 : List Nat := [3]
def Sp2 (f : FuncId) (xs : List T) (r : R) : Prop := f = 5 ∧ xs = [] ∧ r = (B true, [])
theorem Sp2_ok (f : FuncId) (xs : List T) (r : R) (h : Sp2 f xs r) : CallsR E0.P f xs r := by
  obtain ⟨rfl, rfl, rfl⟩ := h
  exact awake_R
noncomputable def pr2 : FuncId → List T → Option R := relP Sp2 (butP NEW2 CALL1)
theorem pr2_ok : CallOK E0.P pr2 := relP_ok Sp2_ok (butP_ok (lim_sound mixed pr1_ok))
noncomputable abbrev CALL2 := (lim E0 pr2).call
theorem Sp2_not {f : FuncId} (h : f ≠ 5) (xs : List T) (r : R) : ¬ Sp2 f xs r := fun q => h q.1
theorem pr2_none {f : FuncId} (h : f ≠ 5 ∧ f ∈ NEW2) (xs : List T) : pr2 f xs = none := (relP_none (Sp2_not h.1 xs)).trans (if_pos h.2)
theorem old2 {f : FuncId} {xs : List T} {r : R} (h : f ≠ 5 ∧ f ∉ NEW2) (hc : CALL1 f xs = some r) : CALL2 f xs = some r :=
  lim_pr ((relP_none (Sp2_not h.1 xs)).trans ((if_neg h.2).trans hc))
theorem up2 {f : FuncId} {xs : List T} {r : R} (h : (f ≠ 5 ∧ f ∉ NEW2) ∧ f ≠ 46 ∧ f ∉ NEW) (hc : CALL f xs = some r) : CALL2 f xs = some r := old2 h.1 (old1 h.2 hc)
theorem s2_Awake : CALL2 5 [] = some (B true, []) :=
  lim_pr (relP_of ⟨rfl, rfl, rfl⟩ fun r' h' => h'.2.2)
end Go.Proofs.YtnbijiopcgfmfaaGreat.Tev
/- The loops of TopSections. -/
namespace Go.Proofs.YtnbijiopcgfmfaaGreat.Tev
open Go Go.RowKit Go.Proofs Go.Proofs.YtnbijiopcgfmfaaGreat.Q
set_option linter.unusedSectionVars false
set_option maxRecDepth 100000
set_option maxHeartbeats 0
set_option linter.unusedSimpArgs false
set_option linter.unusedVariables false
theorem okA_cut {k : Int} {sh el : List Int} {X : List SubQ} (h : okA k sh el) (hc : cutOk X sh) : okA k (cutE X) (picks el (placesQ (cB X sh) (cutE X) (cS X sh))) := by
  obtain ⟨hE, hp⟩ := okA_E k sh el h
  obtain ⟨hd, _⟩ := whole_cut hE hc
  refine ⟨h.1, ?_, fun n hn => ?_⟩
  · rw [size_some ⟨hd.1, hd.2.1⟩, picks_len, places_len hd, prN_pr fun e he => (hd.1.2 e he).1]
  · unfold picks at hn
    obtain ⟨p, hp1, rfl⟩ := List.mem_map.1 hn
    have hin := whole_in hE hc hp1
    have hlt : p.toNat < el.length := by omega
    rw [List.getD_eq_getElem?_getD, List.getElem?_eq_getElem hlt]
    exact h.2.2 _ (List.getElem_mem hlt)
theorem elAt_in {sh el : List Int} {i : Nat} {x : Int} (h : elAt sh el i = some x) : x ∈ el := by
  unfold elAt at h
  split at h <;> exact List.mem_of_getElem? h
section
variable (k : Int) (sh el : List Int) (X Y Z : List SubQ) (op : ByteArray) (kb : Int) (E S be : List Int) (bb : Int) (E2 ce : List Int) (K : Int) (vs : List Int) (N : Nat → Int) (n : Nat)
theorem l_TS10 (hE : (E.length : Int) ≤ 1000) (hE2 : (E2.length : Int) ≤ 1000) (hbe : (be.length : Int) ≤ 100000) (hce : (ce.length : Int) ≤ 100000) (hfb : ∀ x ∈ be, fitsQ k x) (hfc : ∀ x ∈ ce, fitsQ k x) (hk : ¬ k = 0) (hK : ¬ kindQ op k k = 0) (hn : n ≤ 4000)
    (H : ∀ i, i < n → ∃ x y, elAt E be i = some x ∧ elAt E2 ce i = some y ∧ CALL1 23 [Str op, Vl k x, Vl k y] = some (.tup [Vl (kindQ op k k) (N i), I 0], [])) :
    ∀ (m i : Nat), n - i = m → i ≤ n →
      lp E0 pr2 3 10 ⟨[(2, SS true none Z), (3, .pt 0 0), (4, .pt 1 0), (7, .pt 3 0), (8, .pt 4 0), (10, .pt 6 0), (13, .pt 8 0), (15, I i)],
        [(0, .box [I k, SL true none sh.length (ints sh), SL true none el.length (ints el)]), (1, .box [SS true none X, SS true none Y, Str op]),
         (2, .fz (ints be)), (3, .box [I k, .c (.s none E.length (ints E)), .sl 2 0 be.length 1 none]), (4, .box [I bb, .c (.s none E.length (ints E)), .c (.s none S.length (ints S))]),
         (5, .fz (ints ce)), (6, .box [I k, .c (.s none E2.length (ints E2)), .sl 5 0 ce.length 1 none]), (7, .arr (ints (rowN N 0 n)) 7 1), (8, .box [I (kindQ op k k), .c (.s none vs.length (ints vs)), .sl 7 0 (rowN N 0 n).length 1 none])], 9⟩ =
      some (.exit 0, ⟨[(2, SS true none Z), (3, .pt 0 0), (7, .pt 2 0), (8, .pt 3 0)],
        [(0, .box [I k, SL true none sh.length (ints sh), SL true none el.length (ints el)]), (1, .fz (ints be)), (2, .box [I k, .c (.s none E.length (ints E)), .sl 1 0 be.length 1 none]), (3, .box [I bb, .c (.s none E.length (ints E)), .c (.s none S.length (ints S))])], 4⟩) := by
  intro m
  have hlen := rowN_len N 0 n
  induction m with
  | zero =>
    intro i hm hi
    have h1 : ¬ (i : Int) < (rowN N 0 n).length := by omega
    rw [lp_eq lp3_10]
    simp (config := { maxSteps := 1000000 }) (disch := omega) only [push_cast, ↓reduceIte, Nat.reduceEqDiff, Nat.reduceAdd, Nat.reduceLT, Nat.reduceLeDiff, Nat.reduceBEq, Nat.reduceMul, Nat.reduceSub, Int.reduceToNat, Int.reduceEq, Int.reduceLT, Int.reduceLE, Int.reduceNeg, Int.reduceAdd, Int.reduceSub, Int.reduceMul, Tryz.f3, kr3, kp3_23, kp3_10, ow3_23, ow3_10, ty3, ty4, ty9, ty22, ty24, ty25, ty27, ty31, ty38, ty63, ty65, tb4, h1]
    done
  | succ m ih =>
    intro i hm hi
    have h1 : (i : Int) < (rowN N 0 n).length := by omega
    have h2 : i < (rowN N 0 n).length := by omega
    obtain ⟨x, y, hx, hy, ho⟩ := H i (by omega)
    have a1 := fun b1 b2 c1 c2 => up2 (by decide) (r_At k b1 b2 c1 c2 E be (by omega) (by omega) i x hx)
    have a2 := fun b1 b2 c1 c2 => up2 (by decide) (r_At k b1 b2 c1 c2 E2 ce (by omega) (by omega) i y hy)
    have a3 := old2 (by decide) (s_One op k x k y (hfb x (elAt_in hx)) (hfc y (elAt_in hy)) hk hK ho)
    have hN : (rowN N 0 n)[i]? = some (N i) := rowN_get N (by omega)
    have ih' := ih (i + 1) (by omega) (by omega)
    simp only [cast1, List.length_append, List.length_cons, List.length_nil, Nat.zero_add, Nat.add_zero, Int.natCast_zero, Int.natCast_add, Int.zero_add, ints_1, ints_0, ] at ih'
    rw [lp_eq lp3_10]
    simp (config := { maxSteps := 1000000 }) (disch := omega) only [push_cast, ↓reduceIte, Nat.reduceEqDiff, Nat.reduceAdd, Nat.reduceLT, Nat.reduceLeDiff, Nat.reduceBEq, Nat.reduceMul, Nat.reduceSub, Int.reduceToNat, Int.reduceEq, Int.reduceLT, Int.reduceLE, Int.reduceNeg, Int.reduceAdd, Int.reduceSub, Int.reduceMul, Tryz.f3, kr3, kp3_23, kp3_10, ow3_23, ow3_10, ty3, ty4, ty9, ty22, ty24, ty25, ty27, ty31, ty38, ty63, ty65, tb4, h1, h2, a1, a2, a3, getD_of hN, ih', ne_eq]
    done
theorem l_TS23 (gl he : List Int) (hg : gl.length ≤ 4000) (hin : ∀ p ∈ gl, 0 ≤ p ∧ p < el.length) (hel : (el.length : Int) ≤ 4000) (hh : he = picks el gl) :
    ∀ (r : List Int) (i : Nat), gl.drop i = r →
      lp E0 pr2 3 23 ⟨[(3, .pt 0 0), (19, .pt 2 0), (22, .sl 3 0 gl.length 1 none), (23, I i)],
        [(0, .box [I k, SL true none sh.length (ints sh), SL true none el.length (ints el)]), (1, .arr (ints he) 1 1), (2, .box [I k, .c (.s none E.length (ints E)), .sl 1 0 he.length 1 none]), (3, .arr (ints gl) 3 1)], 4⟩ =
      some (.exit 2, ⟨[], [], 0⟩) := by
  intro r
  induction r with
  | nil =>
    intro i h1
    have h3 := drop_nil h1
    have h4 : ¬ (i : Int) < gl.length := by omega
    rw [lp_eq lp3_23]
    simp (config := { maxSteps := 1000000 }) (disch := omega) only [push_cast, ↓reduceIte, Nat.reduceEqDiff, Nat.reduceAdd, Nat.reduceLT, Nat.reduceLeDiff, Nat.reduceBEq, Nat.reduceMul, Nat.reduceSub, Int.reduceToNat, Int.reduceEq, Int.reduceLT, Int.reduceLE, Int.reduceNeg, Int.reduceAdd, Int.reduceSub, Int.reduceMul, Tryz.f3, kr3, kp3_23, kp3_10, ow3_23, ow3_10, ty3, ty4, ty9, ty22, ty24, ty25, ty27, ty31, ty38, ty63, ty65, tb4, h4]
  | cons p r ih =>
    intro i h1
    obtain ⟨g1, g2, g3⟩ := drop_cons h1
    have g4 : (i : Int) < gl.length := by omega
    obtain ⟨p0, p1⟩ := hin p (List.mem_of_getElem? g2)
    have gp : el[p.toNat]? = some (el.getD p.toNat 0) := by
      have : p.toNat < el.length := by omega
      rw [List.getD_eq_getElem?_getD, List.getElem?_eq_getElem this]; rfl
    have gh : he[i]? = some (el.getD p.toNat 0) := by rw [hh, picks_get, g2]; rfl
    have hhl : i < he.length := by rw [hh, picks_len]; omega
    have hhl' : (i : Int) < he.length := by omega
    have pn : p = ((p.toNat : Nat) : Int) := by omega
    have ih' := ih (i + 1) g3
    simp only [cast1, List.length_append, List.length_cons, List.length_nil, Nat.zero_add, Nat.add_zero, Int.natCast_zero, Int.natCast_add, Int.zero_add, ints_1, ints_0, ] at ih'
    generalize el.getD p.toNat 0 = y at *
    generalize p.toNat = pn' at *
    subst pn
    have hl : pn' < el.length := by omega
    rw [lp_eq lp3_23]
    simp (config := { maxSteps := 1000000 }) (disch := omega) only [push_cast, ↓reduceIte, Nat.reduceEqDiff, Nat.reduceAdd, Nat.reduceLT, Nat.reduceLeDiff, Nat.reduceBEq, Nat.reduceMul, Nat.reduceSub, Int.reduceToNat, Int.reduceEq, Int.reduceLT, Int.reduceLE, Int.reduceNeg, Int.reduceAdd, Int.reduceSub, Int.reduceMul, Tryz.f3, kr3, kp3_23, kp3_10, ow3_23, ow3_10, ty3, ty4, ty9, ty22, ty24, ty25, ty27, ty31, ty38, ty63, ty65, tb4, g1, g4, getD_of g2, p1, hl, getD_of gp, hhl, hhl', getD_of gh, ih', ne_eq]
end
end Go.Proofs.YtnbijiopcgfmfaaGreat.Tev
/- The walk of TopSections. -/
namespace Go.Proofs.YtnbijiopcgfmfaaGreat.Tev
open Go Go.RowKit Go.Proofs Go.Proofs.YtnbijiopcgfmfaaGreat.Q
set_option linter.unusedSectionVars false
set_option maxRecDepth 100000
set_option maxHeartbeats 0
set_option linter.unusedSimpArgs false
set_option linter.unusedVariables false
section
variable (k : Int) (sh el : List Int) (X Y Z : List SubQ) (op : ByteArray) (hAw : CALL2 5 [] = some (B true, []))
include hAw
theorem TS_guard (h : (300 : Int) < el.length ∨ (10 : Int) < X.length ∨ (10 : Int) < Y.length ∨ (10 : Int) < Z.length ∨ ∀ b1 b2 c1 c2, CALL2 4 [Ar k b1 c1 sh b2 c2 el] = some (B false, [])) :
    CALL2 3 [Ar k true none sh true none el, .agg [SS true none X, SS true none Y, Str op], SS true none Z] = some (B true, []) := by
  by_cases g1 : (300 : Int) < el.length
  · refine lim_run (fn := Tryz.f3) fn3 (pr2_none (by decide) _) body3 (Nat.le_of_ble_eq_true rfl) ok3 ?_
    simp (config := { maxSteps := 1000000 }) (disch := omega) only [push_cast, ↓reduceIte, Nat.reduceEqDiff, Nat.reduceAdd, Nat.reduceLT, Nat.reduceLeDiff, Nat.reduceBEq, Nat.reduceMul, Nat.reduceSub, Int.reduceToNat, Int.reduceEq, Int.reduceLT, Int.reduceLE, Int.reduceNeg, Int.reduceAdd, Int.reduceSub, Int.reduceMul, Tryz.f3, kr3, kp3_23, kp3_10, ow3_23, ow3_10, ty3, ty4, ty9, ty22, ty24, ty25, ty27, ty31, ty38, ty63, ty65, tb4, g1, hAw]
  by_cases g2 : (10 : Int) < X.length
  · refine lim_run (fn := Tryz.f3) fn3 (pr2_none (by decide) _) body3 (Nat.le_of_ble_eq_true rfl) ok3 ?_
    simp (config := { maxSteps := 1000000 }) (disch := omega) only [push_cast, ↓reduceIte, Nat.reduceEqDiff, Nat.reduceAdd, Nat.reduceLT, Nat.reduceLeDiff, Nat.reduceBEq, Nat.reduceMul, Nat.reduceSub, Int.reduceToNat, Int.reduceEq, Int.reduceLT, Int.reduceLE, Int.reduceNeg, Int.reduceAdd, Int.reduceSub, Int.reduceMul, Tryz.f3, kr3, kp3_23, kp3_10, ow3_23, ow3_10, ty3, ty4, ty9, ty22, ty24, ty25, ty27, ty31, ty38, ty63, ty65, tb4, g1, g2, hAw]
  by_cases g3 : (10 : Int) < Y.length
  · refine lim_run (fn := Tryz.f3) fn3 (pr2_none (by decide) _) body3 (Nat.le_of_ble_eq_true rfl) ok3 ?_
    simp (config := { maxSteps := 1000000 }) (disch := omega) only [push_cast, ↓reduceIte, Nat.reduceEqDiff, Nat.reduceAdd, Nat.reduceLT, Nat.reduceLeDiff, Nat.reduceBEq, Nat.reduceMul, Nat.reduceSub, Int.reduceToNat, Int.reduceEq, Int.reduceLT, Int.reduceLE, Int.reduceNeg, Int.reduceAdd, Int.reduceSub, Int.reduceMul, Tryz.f3, kr3, kp3_23, kp3_10, ow3_23, ow3_10, ty3, ty4, ty9, ty22, ty24, ty25, ty27, ty31, ty38, ty63, ty65, tb4, g1, g2, g3, hAw]
  by_cases g4 : (10 : Int) < Z.length
  · refine lim_run (fn := Tryz.f3) fn3 (pr2_none (by decide) _) body3 (Nat.le_of_ble_eq_true rfl) ok3 ?_
    simp (config := { maxSteps := 1000000 }) (disch := omega) only [push_cast, ↓reduceIte, Nat.reduceEqDiff, Nat.reduceAdd, Nat.reduceLT, Nat.reduceLeDiff, Nat.reduceBEq, Nat.reduceMul, Nat.reduceSub, Int.reduceToNat, Int.reduceEq, Int.reduceLT, Int.reduceLE, Int.reduceNeg, Int.reduceAdd, Int.reduceSub, Int.reduceMul, Tryz.f3, kr3, kp3_23, kp3_10, ow3_23, ow3_10, ty3, ty4, ty9, ty22, ty24, ty25, ty27, ty31, ty38, ty63, ty65, tb4, g1, g2, g3, g4, hAw]
  have hv := ((((h.resolve_left g1).resolve_left g2).resolve_left g3).resolve_left g4)
  refine lim_run (fn := Tryz.f3) fn3 (pr2_none (by decide) _) body3 (Nat.le_of_ble_eq_true rfl) ok3 ?_
  simp (config := { maxSteps := 1000000 }) (disch := omega) only [push_cast, ↓reduceIte, Nat.reduceEqDiff, Nat.reduceAdd, Nat.reduceLT, Nat.reduceLeDiff, Nat.reduceBEq, Nat.reduceMul, Nat.reduceSub, Int.reduceToNat, Int.reduceEq, Int.reduceLT, Int.reduceLE, Int.reduceNeg, Int.reduceAdd, Int.reduceSub, Int.reduceMul, Tryz.f3, kr3, kp3_23, kp3_10, ow3_23, ow3_10, ty3, ty4, ty9, ty22, ty24, ty25, ty27, ty31, ty38, ty63, ty65, tb4, g1, g2, g3, g4, hv, hAw]
abbrev cutN : R := (.tup [.agg [I 0, .sl 0 0 0 1 none, .sl 1 0 0 1 none], .agg [I 0, .sl 2 0 0 1 none, .sl 3 0 0 1 none], B false], [[], [], [], []])
abbrev cutY (k : Int) (E be : List Int) (bb : Int) (S : List Int) : R := (.tup [.agg [I k, .c (.s none E.length (ints E)), .sl 0 0 be.length 1 none], .agg [I bb, .c (.s none E.length (ints E)), .c (.s none S.length (ints S))], B true], [ints be])
variable (g1 : ¬ (300 : Int) < el.length) (g2 : ¬ (10 : Int) < X.length) (g3 : ¬ (10 : Int) < Y.length) (g4 : ¬ (10 : Int) < Z.length) (hv : ∀ b1 b2 c1 c2, CALL2 4 [Ar k b1 c1 sh b2 c2 el] = some (B true, []))
variable (E S be E2 S2 ce : List Int) (bb b2 : Int)
include g1 g2 g3 g4 hv
theorem TS_no (h : (CALL2 6 [Ar k true none sh true none el, SS true none X] = some cutN ∧ (CALL2 6 [Ar k true none sh true none el, SS true none Y] = some cutN ∨ CALL2 6 [Ar k true none sh true none el, SS true none Y] = some (cutY k E2 ce b2 S2))) ∨
    (CALL2 6 [Ar k true none sh true none el, SS true none X] = some (cutY k E be bb S) ∧ CALL2 6 [Ar k true none sh true none el, SS true none Y] = some cutN)) :
    CALL2 3 [Ar k true none sh true none el, .agg [SS true none X, SS true none Y, Str op], SS true none Z] = some (B true, []) := by
  rcases h with ⟨h1, h2 | h2⟩ | ⟨h1, h2⟩
  · refine lim_run (fn := Tryz.f3) fn3 (pr2_none (by decide) _) body3 (Nat.le_of_ble_eq_true rfl) ok3 ?_
    simp (config := { maxSteps := 1000000 }) (disch := omega) only [push_cast, ↓reduceIte, Nat.reduceEqDiff, Nat.reduceAdd, Nat.reduceLT, Nat.reduceLeDiff, Nat.reduceBEq, Nat.reduceMul, Nat.reduceSub, Int.reduceToNat, Int.reduceEq, Int.reduceLT, Int.reduceLE, Int.reduceNeg, Int.reduceAdd, Int.reduceSub, Int.reduceMul, Tryz.f3, kr3, kp3_23, kp3_10, ow3_23, ow3_10, ty3, ty4, ty9, ty22, ty24, ty25, ty27, ty31, ty38, ty63, ty65, tb4, g1, g2, g3, g4, hv, h1, h2, hAw]
  · refine lim_run (fn := Tryz.f3) fn3 (pr2_none (by decide) _) body3 (Nat.le_of_ble_eq_true rfl) ok3 ?_
    simp (config := { maxSteps := 1000000 }) (disch := omega) only [push_cast, ↓reduceIte, Nat.reduceEqDiff, Nat.reduceAdd, Nat.reduceLT, Nat.reduceLeDiff, Nat.reduceBEq, Nat.reduceMul, Nat.reduceSub, Int.reduceToNat, Int.reduceEq, Int.reduceLT, Int.reduceLE, Int.reduceNeg, Int.reduceAdd, Int.reduceSub, Int.reduceMul, Tryz.f3, kr3, kp3_23, kp3_10, ow3_23, ow3_10, ty3, ty4, ty9, ty22, ty24, ty25, ty27, ty31, ty38, ty63, ty65, tb4, g1, g2, g3, g4, hv, h1, h2, hAw]
  · refine lim_run (fn := Tryz.f3) fn3 (pr2_none (by decide) _) body3 (Nat.le_of_ble_eq_true rfl) ok3 ?_
    simp (config := { maxSteps := 1000000 }) (disch := omega) only [push_cast, ↓reduceIte, Nat.reduceEqDiff, Nat.reduceAdd, Nat.reduceLT, Nat.reduceLeDiff, Nat.reduceBEq, Nat.reduceMul, Nat.reduceSub, Int.reduceToNat, Int.reduceEq, Int.reduceLT, Int.reduceLE, Int.reduceNeg, Int.reduceAdd, Int.reduceSub, Int.reduceMul, Tryz.f3, kr3, kp3_23, kp3_10, ow3_23, ow3_10, ty3, ty4, ty9, ty22, ty24, ty25, ty27, ty31, ty38, ty63, ty65, tb4, g1, g2, g3, g4, hv, h1, h2, hAw]
variable (h1 : CALL2 6 [Ar k true none sh true none el, SS true none X] = some (cutY k E be bb S)) (h2 : CALL2 6 [Ar k true none sh true none el, SS true none Y] = some (cutY k E2 ce b2 S2))
include h1 h2
section
variable (e : Int) (he : e ≠ 0) (hD : CALL2 7 [Str op, Ar k true none E true none be, Ar k true none E2 true none ce] = some (.tup [.agg [I 0, .sl 0 0 0 1 none, .sl 1 0 0 1 none], I e], [[], []]))
include he hD
theorem TS_errN (e2 : Int) (he2 : e2 ≠ 0) (hC : CALL2 10 [Dsc bb true none E true none S, SS true none Z] = some (.tup [.agg [I 0, .sl 0 0 0 1 none, .sl 1 0 0 1 none], I e2], [[], []]))
    (hz : CALL2 6 [Ar k true none E true none be, SS true none Z] = some cutN) :
    CALL2 3 [Ar k true none sh true none el, .agg [SS true none X, SS true none Y, Str op], SS true none Z] = some (B true, []) := by
  refine lim_run (fn := Tryz.f3) fn3 (pr2_none (by decide) _) body3 (Nat.le_of_ble_eq_true rfl) ok3 ?_
  simp (config := { maxSteps := 1000000 }) (disch := omega) only [push_cast, ↓reduceIte, Nat.reduceEqDiff, Nat.reduceAdd, Nat.reduceLT, Nat.reduceLeDiff, Nat.reduceBEq, Nat.reduceMul, Nat.reduceSub, Int.reduceToNat, Int.reduceEq, Int.reduceLT, Int.reduceLE, Int.reduceNeg, Int.reduceAdd, Int.reduceSub, Int.reduceMul, Tryz.f3, kr3, kp3_23, kp3_10, ow3_23, ow3_10, ty3, ty4, ty9, ty22, ty24, ty25, ty27, ty31, ty38, ty63, ty65, tb4, g1, g2, g3, g4, hv, h1, h2, hAw, he, hD, he2, hC, hz, expC_s0, ne_eq]
theorem TS_errY (gb wb : Int) (E3 S3 S4 gl hl : List Int) (hE3 : (E3.length : Int) ≤ 1000) (hC : CALL2 10 [Dsc bb true none E true none S, SS true none Z] = some (.tup [.agg [I gb, .sl 0 0 E3.length 1 none, .sl 1 0 S3.length 1 none], I 0], [ints E3, ints S3]))
    (hz : CALL2 6 [Ar k true none E true none be, SS true none Z] = some (cutY k E3 hl wb S4)) (hP : ∀ b c b' c', CALL2 11 [Dsc gb b c E3 b' c' S3] = some (.tup [.sl 0 0 gl.length 1 none, I 0], [ints gl]))
    (hlen : (gl.length : Int) = hl.length) (hg : gl.length ≤ 4000) (hin : ∀ p ∈ gl, 0 ≤ p ∧ p < el.length) (hh : hl = picks el gl) :
    CALL2 3 [Ar k true none sh true none el, .agg [SS true none X, SS true none Y, Str op], SS true none Z] = some (B true, []) := by
  have hL := l_TS23 k sh el E3 gl hl hg hin (by omega) hh gl 0 rfl
  have hS := fun b1 b2 c1 c2 => up2 (by decide) (r_Same b1 b2 c1 c2 E3 (by omega))
  simp only [cast1, List.length_append, List.length_cons, List.length_nil, Nat.zero_add, Nat.add_zero, Int.natCast_zero, Int.natCast_add, Int.zero_add, ints_1, ints_0, ] at hL
  refine lim_run (fn := Tryz.f3) fn3 (pr2_none (by decide) _) body3 (Nat.le_of_ble_eq_true rfl) ok3 ?_
  simp (config := { maxSteps := 1000000 }) (disch := omega) only [push_cast, ↓reduceIte, Nat.reduceEqDiff, Nat.reduceAdd, Nat.reduceLT, Nat.reduceLeDiff, Nat.reduceBEq, Nat.reduceMul, Nat.reduceSub, Int.reduceToNat, Int.reduceEq, Int.reduceLT, Int.reduceLE, Int.reduceNeg, Int.reduceAdd, Int.reduceSub, Int.reduceMul, Tryz.f3, kr3, kp3_23, kp3_10, ow3_23, ow3_10, ty3, ty4, ty9, ty22, ty24, ty25, ty27, ty31, ty38, ty63, ty65, tb4, g1, g2, g3, g4, hv, h1, h2, hAw, he, hD, hC, hz, hP, hlen, hS, hL, expC_s0, ne_eq]
  done
end
section
variable (vs : List Int) (N : Nat → Int) (n : Nat) (hn : n ≤ 4000) (hK : ¬ kindQ op k k = 0) (hk : ¬ k = 0) (hEl : (E.length : Int) ≤ 1000) (hE2 : (E2.length : Int) ≤ 1000) (hbe : (be.length : Int) ≤ 100000) (hce : (ce.length : Int) ≤ 100000) (hfb : ∀ x ∈ be, fitsQ k x) (hfc : ∀ x ∈ ce, fitsQ k x)
  (hD : CALL2 7 [Str op, Ar k true none E true none be, Ar k true none E2 true none ce] = some (.tup [.agg [I (kindQ op k k), .c (.s none vs.length (ints vs)), .sl 0 0 (rowN N 0 n).length 1 none], I 0], [ints (rowN N 0 n)]))
  (H : ∀ i, i < n → ∃ x y, elAt E be i = some x ∧ elAt E2 ce i = some y ∧ CALL1 23 [Str op, Vl k x, Vl k y] = some (.tup [Vl (kindQ op k k) (N i), I 0], []))
include hn hK hk hEl hE2 hbe hce hfb hfc hD H
theorem TS_okN (e2 : Int) (he2 : e2 ≠ 0) (hC : CALL2 10 [Dsc bb true none E true none S, SS true none Z] = some (.tup [.agg [I 0, .sl 0 0 0 1 none, .sl 1 0 0 1 none], I e2], [[], []]))
    (hz : CALL2 6 [Ar k true none E true none be, SS true none Z] = some cutN) :
    CALL2 3 [Ar k true none sh true none el, .agg [SS true none X, SS true none Y, Str op], SS true none Z] = some (B true, []) := by
  have hL0 := l_TS10 k sh el X Y Z op E S be bb E2 ce vs N n hEl hE2 hbe hce hfb hfc hk hK hn H n 0 (by omega) (by omega)
  simp only [cast1, List.length_append, List.length_cons, List.length_nil, Nat.zero_add, Nat.add_zero, Int.natCast_zero, Int.natCast_add, Int.zero_add, ints_1, ints_0, ] at hL0
  refine lim_run (fn := Tryz.f3) fn3 (pr2_none (by decide) _) body3 (Nat.le_of_ble_eq_true rfl) ok3 ?_
  simp (config := { maxSteps := 1000000 }) (disch := omega) only [push_cast, ↓reduceIte, Nat.reduceEqDiff, Nat.reduceAdd, Nat.reduceLT, Nat.reduceLeDiff, Nat.reduceBEq, Nat.reduceMul, Nat.reduceSub, Int.reduceToNat, Int.reduceEq, Int.reduceLT, Int.reduceLE, Int.reduceNeg, Int.reduceAdd, Int.reduceSub, Int.reduceMul, Tryz.f3, kr3, kp3_23, kp3_10, ow3_23, ow3_10, ty3, ty4, ty9, ty22, ty24, ty25, ty27, ty31, ty38, ty63, ty65, tb4, g1, g2, g3, g4, hv, h1, h2, hAw, hD, hL0, he2, hC, hz, expC_s0, ne_eq]
theorem TS_okY (gb wb : Int) (E3 S3 S4 gl hl : List Int) (hE3 : (E3.length : Int) ≤ 1000) (hC : CALL2 10 [Dsc bb true none E true none S, SS true none Z] = some (.tup [.agg [I gb, .sl 0 0 E3.length 1 none, .sl 1 0 S3.length 1 none], I 0], [ints E3, ints S3]))
    (hz : CALL2 6 [Ar k true none E true none be, SS true none Z] = some (cutY k E3 hl wb S4)) (hP : ∀ b c b' c', CALL2 11 [Dsc gb b c E3 b' c' S3] = some (.tup [.sl 0 0 gl.length 1 none, I 0], [ints gl]))
    (hlen : (gl.length : Int) = hl.length) (hg : gl.length ≤ 4000) (hin : ∀ p ∈ gl, 0 ≤ p ∧ p < el.length) (hh : hl = picks el gl) :
    CALL2 3 [Ar k true none sh true none el, .agg [SS true none X, SS true none Y, Str op], SS true none Z] = some (B true, []) := by
  have hL0 := l_TS10 k sh el X Y Z op E S be bb E2 ce vs N n hEl hE2 hbe hce hfb hfc hk hK hn H n 0 (by omega) (by omega)
  have hL := l_TS23 k sh el E3 gl hl hg hin (by omega) hh gl 0 rfl
  have hS := fun b1 b2 c1 c2 => up2 (by decide) (r_Same b1 b2 c1 c2 E3 (by omega))
  simp only [cast1, List.length_append, List.length_cons, List.length_nil, Nat.zero_add, Nat.add_zero, Int.natCast_zero, Int.natCast_add, Int.zero_add, ints_1, ints_0, ] at hL hL0
  refine lim_run (fn := Tryz.f3) fn3 (pr2_none (by decide) _) body3 (Nat.le_of_ble_eq_true rfl) ok3 ?_
  simp (config := { maxSteps := 1000000 }) (disch := omega) only [push_cast, ↓reduceIte, Nat.reduceEqDiff, Nat.reduceAdd, Nat.reduceLT, Nat.reduceLeDiff, Nat.reduceBEq, Nat.reduceMul, Nat.reduceSub, Int.reduceToNat, Int.reduceEq, Int.reduceLT, Int.reduceLE, Int.reduceNeg, Int.reduceAdd, Int.reduceSub, Int.reduceMul, Tryz.f3, kr3, kp3_23, kp3_10, ow3_23, ow3_10, ty3, ty4, ty9, ty22, ty24, ty25, ty27, ty31, ty38, ty63, ty65, tb4, g1, g2, g3, g4, hv, h1, h2, hAw, hD, hL0, hC, hz, hP, hlen, hS, hL, expC_s0, ne_eq]
end
end
end Go.Proofs.YtnbijiopcgfmfaaGreat.Tev
/- TopSections for all inputs, but for Awake. -/
namespace Go.Proofs.YtnbijiopcgfmfaaGreat.Tev
open Go Go.RowKit Go.Proofs Go.Proofs.YtnbijiopcgfmfaaGreat.Q
set_option linter.unusedSectionVars false
set_option maxRecDepth 100000
set_option maxHeartbeats 0
set_option linter.unusedSimpArgs false
set_option linter.unusedVariables false
theorem cB_le {sh : List Int} {X : List SubQ} (h : okE sh) (hc : cutOk X sh) : cB X sh ≤ 2147483648 := by
  show cutB 0 X sh (wholeS 1 sh) ≤ _
  unfold cutB
  by_cases hp : pr sh = 0
  · rw [if_pos hp]; omega
  · rw [if_neg hp]
    have h1 := exts_pos h.1 hp
    obtain ⟨_, e2, _⟩ := cut_ends hc (wholeS_len 1 sh) h1
    obtain ⟨_, w2⟩ := whole_ends sh 1 (by omega) h1
    have := h.2
    omega
theorem sub_in {sh : List Int} {X Y : List SubQ} (h : okE sh) (hX : cutOk X sh) (hY : cutOk Y (cutE X)) {p : Int} (hp : p ∈ placesQ (cutB (cB X sh) Y (cutE X) (cS X sh)) (cutE Y) (cutS Y (cS X sh))) : 0 ≤ p ∧ p < prN sh := by
  obtain ⟨d1, d2⟩ := whole_cut h hX
  obtain ⟨g1, _⟩ := cut_ok d1 d2 hY
  have hl := places_len g1
  obtain ⟨j, hj⟩ := List.getElem?_of_mem hp
  have hj2 : j < prN (cutE Y) := by
    rw [← hl]
    rcases Nat.lt_or_ge j (placesQ (cutB (cB X sh) Y (cutE X) (cS X sh)) (cutE Y) (cutS Y (cS X sh))).length with q | q
    · exact q
    · rw [List.getElem?_eq_none q] at hj; cases hj
  obtain ⟨a1, a2⟩ := cut_places d1 d2 hY hj2
  rw [a2] at hj
  obtain rfl := Option.some.inj hj
  have hp0 : pr (cutE X) ≠ 0 := fun q => by rw [(prN_zero fun e he => (d1.1.2 e he).1).2 q] at a1; omega
  exact whole_in h hX (List.mem_of_getElem? (places_get d1 hp0 _ a1))
theorem TopSections_at (k : Int) (sh el : List Int) (X Y Z : List SubQ) (op : ByteArray) (hAw : CALL2 5 [] = some (B true, [])) (hs : (sh.length : Int) ≤ 9223372036854775806) (he : (el.length : Int) ≤ 9223372036854775806) :
    CALL2 3 [Ar k true none sh true none el, .agg [SS true none X, SS true none Y, Str op], SS true none Z] = some (B true, []) := by
  have hv := fun b1 b2 c1 c2 => up2 (by decide) (a_Valid k b1 b2 c1 c2 sh el hs he)
  by_cases g1 : (300 : Int) < el.length
  · exact TS_guard k sh el X Y Z op hAw (.inl g1)
  by_cases g2 : (10 : Int) < X.length
  · exact TS_guard k sh el X Y Z op hAw (.inr (.inl g2))
  by_cases g3 : (10 : Int) < Y.length
  · exact TS_guard k sh el X Y Z op hAw (.inr (.inr (.inl g3)))
  by_cases g4 : (10 : Int) < Z.length
  · exact TS_guard k sh el X Y Z op hAw (.inr (.inr (.inr (.inl g4))))
  by_cases hA : okA k sh el
  rotate_left
  · rw [decide_eq_false hA] at hv
    exact TS_guard k sh el X Y Z op hAw (.inr (.inr (.inr (.inr hv))))
  rw [decide_eq_true hA] at hv
  obtain ⟨hE, hpr⟩ := okA_E k sh el hA
  have hk0 : ¬ k = 0 := by have := hA.1; omega
  by_cases hX : cutOk X sh
  · have cX := up2 (by decide) (c_cutOk k true true true none none none sh el X hA (by omega) hX)
    by_cases hY : cutOk Y sh
    · have cY := up2 (by decide) (c_cutOk k true true true none none none sh el Y hA (by omega) hY)
      obtain ⟨dX, tX⟩ := whole_cut hE hX
      obtain ⟨dY, tY⟩ := whole_cut hE hY
      have aX := okA_cut hA hX
      have aY := okA_cut hA hY
      have hbX := cB_le hE hX
      have lX := placesQ_len (cB X sh) (cutE X) (cS X sh)
      have lY := placesQ_len (cB Y sh) (cutE Y) (cS Y sh)
      have pX : (picks el (placesQ (cB X sh) (cutE X) (cS X sh))).length ≤ 4000 := by rw [picks_len]; exact lX
      have pY : (picks el (placesQ (cB Y sh) (cutE Y) (cS Y sh))).length ≤ 4000 := by rw [picks_len]; exact lY
      have eX := dX.1.1
      have eY := dY.1.1
      have hDo := s_Do op k k (cutE X) (picks el (placesQ (cB X sh) (cutE X) (cS X sh))) (cutE Y) (picks el (placesQ (cB Y sh) (cutE Y) (cS Y sh))) aX aY (by omega) (by omega) (by omega) (by omega)
      by_cases hZ : cutOk Z (cutE X)
      · have hC := up2 (by decide) (c_CutOk (cB X sh) true true true none none none (cutE X) (cS X sh) Z dX hbX hZ)
        have hz := up2 (by decide) (c_cutOk k true true true none none none (cutE X) _ Z aX pX hZ)
        obtain ⟨dG, _⟩ := cut_ok dX tX hZ
        have eZ := dG.1.1
        have eZ2 := dG.2.2.1
        have hP := fun b c b' c' => up2 (by decide) (c_Places (cutB (cB X sh) Z (cutE X) (cS X sh)) b b' c c' (cutE Z) (cutS Z (cS X sh)) (by omega) (by omega))
        rw [show errD (cutB (cB X sh) Z (cutE X) (cS X sh)) (cutE Z) (cutS Z (cS X sh)) = 0 from if_pos dG] at hP
        have hh := (sub_sub el hE hX hZ).symm
        have hlen : ((placesQ (cutB (cB X sh) Z (cutE X) (cS X sh)) (cutE Z) (cutS Z (cS X sh))).length : Int) = (picks (picks el (placesQ (cB X sh) (cutE X) (cS X sh))) (placesQ (cB Z (cutE X)) (cutE Z) (cS Z (cutE X)))).length := by
          rw [hh, picks_len]
        have hin : ∀ p ∈ placesQ (cutB (cB X sh) Z (cutE X) (cS X sh)) (cutE Z) (cutS Z (cS X sh)), 0 ≤ p ∧ p < el.length := fun p hp => by
          have := sub_in hE hX hZ hp
          omega
        rcases hDo with ⟨e, he, hD⟩ | ⟨vs, n, N, hK, hn, hD, H⟩
        · exact TS_errY k sh el X Y Z op hAw g1 g2 g3 g4 hv _ _ _ _ _ _ _ _ cX cY e he (old2 (by decide) hD) _ _ _ _ _ _ _ (by omega) hC hz hP hlen (placesQ_len _ _ _) hin hh
        · exact TS_okY k sh el X Y Z op hAw g1 g2 g3 g4 hv _ _ _ _ _ _ _ _ cX cY vs N n hn hK hk0 (by omega) (by omega) (by omega) (by omega) aX.2.2 aY.2.2 (old2 (by decide) hD) H _ _ _ _ _ _ _ (by omega) hC hz hP hlen (placesQ_len _ _ _) hin hh
      · obtain ⟨e2, he2, hC⟩ := c_CutNo (cB X sh) true none (cutE X) (cS X sh) Z dX hbX (by omega) hZ
        have hC := up2 (by decide) (hC true none true none)
        have hz := up2 (by decide) (c_cutNo k true true true none none none (cutE X) _ Z aX (by omega) hZ)
        rcases hDo with ⟨e, he, hD⟩ | ⟨vs, n, N, hK, hn, hD, H⟩
        · exact TS_errN k sh el X Y Z op hAw g1 g2 g3 g4 hv _ _ _ _ _ _ _ _ cX cY e he (old2 (by decide) hD) e2 he2 hC hz
        · exact TS_okN k sh el X Y Z op hAw g1 g2 g3 g4 hv _ _ _ _ _ _ _ _ cX cY vs N n hn hK hk0 (by omega) (by omega) (by omega) (by omega) aX.2.2 aY.2.2 (old2 (by decide) hD) H e2 he2 hC hz
    · have cY := up2 (by decide) (c_cutNo k true true true none none none sh el Y hA (by omega) hY)
      exact TS_no k sh el X Y Z op hAw g1 g2 g3 g4 hv _ _ _ [] [] [] _ 0 (.inr ⟨cX, cY⟩)
  · have cX := up2 (by decide) (c_cutNo k true true true none none none sh el X hA (by omega) hX)
    by_cases hY : cutOk Y sh
    · have cY := up2 (by decide) (c_cutOk k true true true none none none sh el Y hA (by omega) hY)
      exact TS_no k sh el X Y Z op hAw g1 g2 g3 g4 hv [] [] [] _ _ _ 0 _ (.inl ⟨cX, .inr cY⟩)
    · have cY := up2 (by decide) (c_cutNo k true true true none none none sh el Y hA (by omega) hY)
      exact TS_no k sh el X Y Z op hAw g1 g2 g3 g4 hv [] [] [] [] [] [] 0 0 (.inl ⟨cX, .inl cY⟩)
theorem TopSections_all (k : Int) (sh el : List Int) (X Y Z : List SubQ) (op : ByteArray) (hs : (sh.length : Int) ≤ 9223372036854775806) (he : (el.length : Int) ≤ 9223372036854775806) :
    CALL2 3 [Ar k true none sh true none el, .agg [SS true none X, SS true none Y, Str op], SS true none Z] = some (B true, []) := TopSections_at k sh el X Y Z op s2_Awake hs he
end Go.Proofs.YtnbijiopcgfmfaaGreat.Tev
/- TopSections for all inputs. -/
namespace Go.Proofs.YtnbijiopcgfmfaaGreat.Tev
open Go Go.RowKit Go.Proofs Go.Proofs.YtnbijiopcgfmfaaGreat.Q
set_option linter.unusedSectionVars false
set_option linter.unusedVariables false
def okArr (x : Int × List Int × List Int) : Prop := (-9223372036854775808 ≤ x.1 ∧ x.1 ≤ 9223372036854775807) ∧ (x.2.1.length * 8 ≤ 140737488351232 ∧ ∀ n ∈ x.2.1, -9223372036854775808 ≤ n ∧ n ≤ 9223372036854775807) ∧ (x.2.2.length * 8 ≤ 140737488351232 ∧ ∀ n ∈ x.2.2, -9223372036854775808 ≤ n ∧ n ≤ 9223372036854775807)
def okSubQ (s : SubQ) : Prop := True ∧ (-9223372036854775808 ≤ s.2.1 ∧ s.2.1 ≤ 9223372036854775807) ∧ (-9223372036854775808 ≤ s.2.2.1 ∧ s.2.2.1 ≤ 9223372036854775807) ∧ (-9223372036854775808 ≤ s.2.2.2.1 ∧ s.2.2.2.1 ≤ 9223372036854775807) ∧ (-9223372036854775808 ≤ s.2.2.2.2 ∧ s.2.2.2.2 ≤ 9223372036854775807)
theorem TopSections_true (x : Int × List Int × List Int) (y : List SubQ × List SubQ × ByteArray) (z : List SubQ) (hx : okArr x)
    (hy : (y.1.length * 40 ≤ 140737488351232 ∧ ∀ s ∈ y.1, okSubQ s) ∧ (y.2.1.length * 40 ≤ 140737488351232 ∧ ∀ s ∈ y.2.1, okSubQ s) ∧ y.2.2.size ≤ 140737488351232) (hz : z.length * 40 ≤ 140737488351232 ∧ ∀ s ∈ z, okSubQ s) :
    CALL2 3 [.agg [I x.1, .c (.s none x.2.1.length (ints x.2.1)), .c (.s none x.2.2.length (ints x.2.2))], .agg [.c (.s none y.1.length (y.1.flatMap subC)), .c (.s none y.2.1.length (y.2.1.flatMap subC)), .c (.v (.string y.2.2))], .c (.s none z.length (z.flatMap subC))] = some (B true, []) :=
  TopSections_all x.1 x.2.1 x.2.2 y.1 y.2.1 z y.2.2 (by have := hx.2.1.1; omega) (by have := hx.2.2.1; omega)
end Go.Proofs.YtnbijiopcgfmfaaGreat.Tev
