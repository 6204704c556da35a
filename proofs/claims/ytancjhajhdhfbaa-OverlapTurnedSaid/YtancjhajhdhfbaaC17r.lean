/- overlap.Pairs in all cases; overlap.Twice, walked. -/
import Derived.Test.YtancjhajhdhfbaaC17p
import Derived.Test.YtancjhajhdhfbaaShSort
namespace Go.Proofs.Ytancjhajhdhfbaa.Tev
open Go Go.RowKit Go.Proofs Go.Proofs.Ytancjhajhdhfbaa.Q
set_option linter.unusedSectionVars false
set_option maxRecDepth 100000
set_option maxHeartbeats 0
set_option linter.unusedSimpArgs false
set_option linter.unusedVariables false
section
variable (ar a : Int) (b1 b2 b3 : Bool) (c1 c2 c3 : Option Nat) (E S : List Int) (ar' b : Int) (S' : List Int)
theorem o_PairsE (hE : (E.length : Int) ≤ 9223372036854775806) (hS : (S.length : Int) ≤ 9223372036854775806) (hS' : (S'.length : Int) ≤ 9223372036854775806) (h : ¬ ((okR a E S ∧ okR b E S') ∧ ar = ar')) :
    CALL 12 [SL b1 c1 E.length (ints E), Rf ar a b2 c2 S, Rf ar' b b3 c3 S'] = some (pairsRes [] (errRR a E S b S')) := by
  have v1 := fun b c b' c' => o_Valid ar a b b' c c' E S hE hS
  have v2 := fun b0 c b' c' => o_Valid ar' b b0 b' c c' E S' hE hS'
  unfold errRR pairsRes
  refine lim_run (fn := Try.f12) fn12 rfl body12 (Nat.le_of_ble_eq_true rfl) ok12 ?_
  by_cases h1 : okR a E S
  · by_cases h2 : okR b E S'
    · have h3 : ¬ ar = ar' := fun q => h ⟨⟨h1, h2⟩, q⟩
      simp (config := { maxSteps := 1000000 }) (disch := omega) only [push_cast, ↓reduceIte, Nat.reduceEqDiff, Nat.reduceAdd, Nat.reduceLT, Nat.reduceLeDiff, Nat.reduceBEq, Nat.reduceMul, Nat.reduceSub, Int.reduceToNat, Int.reduceEq, Int.reduceLT, Int.reduceLE, Int.reduceNeg, Int.reduceAdd, Int.reduceSub, Int.reduceMul, Try.f12, kr12, kp12_16, kp12_13, kp12_7, ow12_16, ow12_13, ow12_7, ty3, ty22, ty24, ty28, ty29, ty47, ty49, v1, v2, h1, h2, h3, pairCs_nil, ne_eq]
    · simp (config := { maxSteps := 1000000 }) (disch := omega) only [push_cast, ↓reduceIte, Nat.reduceEqDiff, Nat.reduceAdd, Nat.reduceLT, Nat.reduceLeDiff, Nat.reduceBEq, Nat.reduceMul, Nat.reduceSub, Int.reduceToNat, Int.reduceEq, Int.reduceLT, Int.reduceLE, Int.reduceNeg, Int.reduceAdd, Int.reduceSub, Int.reduceMul, Try.f12, kr12, kp12_16, kp12_13, kp12_7, ow12_16, ow12_13, ow12_7, ty3, ty22, ty24, ty28, ty29, ty47, ty49, v1, v2, h1, h2, pairCs_nil, ne_eq]
  · simp (config := { maxSteps := 1000000 }) (disch := omega) only [push_cast, ↓reduceIte, Nat.reduceEqDiff, Nat.reduceAdd, Nat.reduceLT, Nat.reduceLeDiff, Nat.reduceBEq, Nat.reduceMul, Nat.reduceSub, Int.reduceToNat, Int.reduceEq, Int.reduceLT, Int.reduceLE, Int.reduceNeg, Int.reduceAdd, Int.reduceSub, Int.reduceMul, Try.f12, kr12, kp12_16, kp12_13, kp12_7, ow12_16, ow12_13, ow12_7, ty3, ty22, ty24, ty28, ty29, ty47, ty49, v1, v2, h1, pairCs_nil, ne_eq]
theorem pairs_all (hE : (E.length : Int) ≤ 9223372036854775806) (hS : (S.length : Int) ≤ 9223372036854775806) (hS' : (S'.length : Int) ≤ 9223372036854775806) :
    CallsR E0.P 12 [SL b1 c1 E.length (ints E), Rf ar a b2 c2 S, Rf ar' b b3 c3 S'] (pairsRes (meetL ar a E S ar' b S') (errRR a E S b S')) := by
  unfold meetL
  by_cases h : (okR a E S ∧ okR b E S') ∧ ar = ar'
  · obtain ⟨⟨h1, h2⟩, rfl⟩ := h
    rw [if_pos ⟨⟨h1, h2⟩, rfl⟩, show errRR a E S b S' = 0 from if_pos ⟨h1, h2⟩]
    exact pairs_walk ar a b1 b2 b3 c1 c2 c3 E S b S' h1 h2
  · rw [if_neg h]
    exact lim_sound mixed pr0_ok _ _ _ (o_PairsE ar a b1 b2 b3 c1 c2 c3 E S ar' b S' hE hS hS' h)
noncomputable abbrev wBody : Code := codeOf Try.f26
noncomputable abbrev wA0 : Code := sA wBody
noncomputable abbrev wA1 : Code := sA (sB wBody)
noncomputable abbrev wA2 : Code := sA (sB (sB wBody))
noncomputable abbrev wR4 : Code := sA (sB (sB (sB wBody)))
noncomputable abbrev wR5 : Code := sA (sB (sB (sB (sB wBody))))
noncomputable abbrev wR6 : Code := sA (sB (sB (sB (sB (sB wBody)))))
theorem wBody_eq : wBody = .seq wA0 (.seq wA1 (.seq wA2 (.seq wR4 (.seq wR5 (.seq wR6 .ret))))) := by kernel_rfl
theorem wR4_eq : wR4 = .region 4 #[opAt 0 wR4, opAt 1 wR4] false := by kernel_rfl
theorem wR6_eq : wR6 = .region 6 #[opAt 0 wR6, opAt 1 wR6, opAt 2 wR6, opAt 3 wR6, opAt 4 wR6, opAt 5 wR6, opAt 6 wR6] false := by kernel_rfl
theorem dst_lt {o : Oper} {d m : Nat} (h : o.dst = some d) (hl : d < m) : ∀ t, o.dst = some t → t < m := fun t q => by rw [h] at q; cases q; exact hl
theorem wGood : GoodC Try.f26.ntmps wBody wBody := ⟨fun b hb => hb, by kernel_rfl⟩
theorem wPieces : (∀ c ∈ [wA0, wA1, wA2], GoodC Try.f26.ntmps wBody c) ∧ ∀ c ∈ [wR5], GoodC Try.f26.ntmps wBody c := by
  have h := wGood
  have h0 : GoodC Try.f26.ntmps wBody (.seq wA0 (.seq wA1 (.seq wA2 (.seq wR4 (.seq wR5 (.seq wR6 .ret)))))) := by rw [← wBody_eq]; exact h
  obtain ⟨g0, h1⟩ := good_seq h0
  obtain ⟨g1, h2⟩ := good_seq h1
  obtain ⟨g2, h3⟩ := good_seq h2
  obtain ⟨g3, h4⟩ := good_seq h3
  obtain ⟨g4, h5⟩ := good_seq h4
  refine ⟨fun c hc => ?_, fun c hc => ?_⟩
  · simp only [List.mem_cons, List.not_mem_nil, or_false] at hc
    rcases hc with rfl | rfl | rfl <;> assumption
  · simp only [List.mem_cons, List.not_mem_nil, or_false] at hc
    rcases hc with rfl <;> assumption
/-- The state when all places are at hand. -/
noncomputable abbrev twS : St := ⟨[(16, B false), (16, B false), (15, I 0), (7, I 0), (6, .sl 1 0 (placesR a E S).length 1 none), (14, I 0), (13, .sl 1 0 (placesR a E S).length 1 none),
      (9, .tup [.sl 1 0 (placesR a E S).length 1 none, I 0]), (12, .tup [.sl 1 0 (placesR a E S).length 1 none, I 0]), (11, Rf ar a b2 c2 S), (10, SL b1 c1 E.length (ints E)), (5, I 0), (4, B false), (3, .pt 0 0), (0, SL b1 c1 E.length (ints E)), (1, Rf ar a b2 c2 S)],
    [(1, .arr (ints (placesR a E S)) 1 1), (0, .box [I ar, I a, SL b2 c2 S.length (ints S)])], 2⟩
theorem twice_first (h1 : okR a E S) : exec E0 (lim E0 pr0) 26 .nor ([wA0, wA1, wA2].map It.code) ⟨params 0 [SL b1 c1 E.length (ints E), Rf ar a b2 c2 S], [], 0⟩ = some (.nor, twS ar a b1 b2 c1 c2 E S) := by
  have hE := h1.1.1.1.2
  have hS := h1.2.1
  have hp := fun b c b' c' => o_Places ar a b b' c c' E S (by omega) (by omega)
  have he : errR a E S = 0 := if_pos h1
  rw [he] at hp
  simp (config := { maxSteps := 1000000 }) (disch := omega) only [push_cast, ↓reduceIte, Nat.reduceEqDiff, Nat.reduceAdd, Nat.reduceLT, Nat.reduceLeDiff, Nat.reduceBEq, Nat.reduceMul, Nat.reduceSub, Int.reduceToNat, Int.reduceEq, Int.reduceLT, Int.reduceLE, Int.reduceNeg, Int.reduceAdd, Int.reduceSub, Int.reduceMul, Try.f26, kr26, ty3, ty4, ty22, ty24, ty29, tb4, wA0, wA1, wA2, wBody, codeOf, sA, sB, hp, ne_eq]
theorem twice_walk (h1 : okR a E S) : CallsR E0.P 26 [SL b1 c1 E.length (ints E), Rf ar a b2 c2 S] (.tup [B (decide (¬ (placesR a E S).Nodup)), I 0], []) := by
  have hA := twice_first ar a b1 b2 c1 c2 E S h1
  have hok : okFunc Try.f26 = true := by kernel_rfl
  have hlp := lim_loopOK (E := E0) (pr := pr0) mixed pr0_ok fn26 (show Try.f26.body = some wBody by kernel_rfl) hok
  have hnd : nodupB ((loopsOf wBody).map firstId) = true := by kernel_rfl
  have hq := placesR_le a E S
  have htw := twice_iff (placesR a E S)
  have hsl := sortQ_len (placesR a E S)
  have hcl := cpt_le (sortQ (placesR a E S))
  refine walk_fun (E := E0) fn26 (by kernel_rfl) (show Try.f26.body = some wBody by kernel_rfl) (Nat.le_of_ble_eq_true (by kernel_rfl)) fun w F => ?_
  rw [show ([wBody] : List Code) = [Code.seq wA0 (.seq wA1 (.seq wA2 (.seq wR4 (.seq wR5 (.seq wR6 .ret)))))] from congrArg (fun c => [c]) wBody_eq]
  refine walk_assoc [] (walk_assoc [wA0] (walk_assoc [wA0, wA1] (walk_assoc [wA0, wA1, wA2] (walk_assoc [wA0, wA1, wA2, wR4] (walk_assoc [wA0, wA1, wA2, wR4, wR5] ?_)))))
  refine walk_list (l := [wR4, wR5, wR6, .ret]) mixed (lim_sound mixed pr0_ok) hlp hnd [wA0, wA1, wA2] wPieces.1 hA ?_
  show WalkL E0.P Try.f26.ntmps w F [wR4, wR5, wR6, .ret] (twS ar a b1 b2 c1 c2 E S) _
  rw [wR4_eq]
  refine walk_region ?_
  refine walko_op (lim_sound mixed pr0_ok) (by kernel_rfl) (dst_lt (d := 18) (by kernel_rfl) (Nat.le_of_ble_eq_true (by kernel_rfl))) (S' := ?_) ?_ ?_
  rotate_left
  · simp (config := { maxSteps := 1000000 }) (disch := omega) only [push_cast, ↓reduceIte, Nat.reduceEqDiff, Nat.reduceAdd, Nat.reduceLT, Nat.reduceLeDiff, Nat.reduceBEq, Nat.reduceMul, Nat.reduceSub, Int.reduceToNat, Int.reduceEq, Int.reduceLT, Int.reduceLE, Int.reduceNeg, Int.reduceAdd, Int.reduceSub, Int.reduceMul, Try.f26, kr26, ty3, ty4, ty22, ty24, ty29, tb4, opA, opAt, wR6, wR5, wR4, wBody, sA, sB, hsl, St.add]
    rfl
  refine walko_sort sort_ok (ats := #[22]) (t := 18) (by kernel_rfl) (by kernel_rfl) (dst_lt (d := 19) (by kernel_rfl) (Nat.le_of_ble_eq_true (by kernel_rfl))) (p := 1) (g := 1) (gen := 1) (xs := placesR a E S) (cap := none) rfl rfl (by omega) rfl ?_
  show WalkL E0.P Try.f26.ntmps w F [wR5, wR6, .ret] _ _
  refine walk_te (e := .nor) mixed (lim_sound mixed pr0_ok) hlp hnd (wPieces.2 wR5 (by simp)).1 (wPieces.2 wR5 (by simp)).2 (S' := ?_) ?_ ?_
  rotate_left
  · simp (config := { maxSteps := 1000000 }) (disch := omega) only [push_cast, ↓reduceIte, Nat.reduceEqDiff, Nat.reduceAdd, Nat.reduceLT, Nat.reduceLeDiff, Nat.reduceBEq, Nat.reduceMul, Nat.reduceSub, Int.reduceToNat, Int.reduceEq, Int.reduceLT, Int.reduceLE, Int.reduceNeg, Int.reduceAdd, Int.reduceSub, Int.reduceMul, Try.f26, kr26, ty3, ty4, ty22, ty24, ty29, tb4, opA, opAt, wR6, wR5, wR4, wBody, sA, sB, hsl, St.add]
    rfl
  show WalkL E0.P Try.f26.ntmps w F [wR6, .ret] _ _
  rw [wR6_eq]
  refine walk_region ?_
  refine walko_op (lim_sound mixed pr0_ok) (by kernel_rfl) (dst_lt (d := 22) (by kernel_rfl) (Nat.le_of_ble_eq_true (by kernel_rfl))) (S' := ?_) ?_ ?_
  rotate_left
  · simp (config := { maxSteps := 1000000 }) (disch := omega) only [push_cast, ↓reduceIte, Nat.reduceEqDiff, Nat.reduceAdd, Nat.reduceLT, Nat.reduceLeDiff, Nat.reduceBEq, Nat.reduceMul, Nat.reduceSub, Int.reduceToNat, Int.reduceEq, Int.reduceLT, Int.reduceLE, Int.reduceNeg, Int.reduceAdd, Int.reduceSub, Int.reduceMul, Try.f26, kr26, ty3, ty4, ty22, ty24, ty29, tb4, opA, opAt, wR6, wR5, wR4, wBody, sA, sB, hsl, St.add]
    rfl
  refine walko_comp comp_ok (ats := #[22]) (t := 22) (by kernel_rfl) (by kernel_rfl) (dst_lt (d := 23) (by kernel_rfl) (Nat.le_of_ble_eq_true (by kernel_rfl))) (p := 1) (g := 1) (gen := 1) (xs := sortQ (placesR a E S)) (cap := none) (by simp only [get, hsl]; rfl) rfl (by omega) rfl ?_
  refine walko_op (lim_sound mixed pr0_ok) (by kernel_rfl) (dst_lt (d := 24) (by kernel_rfl) (Nat.le_of_ble_eq_true (by kernel_rfl))) (S' := ?_) ?_ ?_
  rotate_left
  · simp (config := { maxSteps := 1000000 }) (disch := omega) only [push_cast, ↓reduceIte, Nat.reduceEqDiff, Nat.reduceAdd, Nat.reduceLT, Nat.reduceLeDiff, Nat.reduceBEq, Nat.reduceMul, Nat.reduceSub, Int.reduceToNat, Int.reduceEq, Int.reduceLT, Int.reduceLE, Int.reduceNeg, Int.reduceAdd, Int.reduceSub, Int.reduceMul, Try.f26, kr26, ty3, ty4, ty22, ty24, ty29, tb4, opA, opAt, wR6, wR5, wR4, wBody, sA, sB, hsl, St.add]
    rfl
  refine walko_op (lim_sound mixed pr0_ok) (by kernel_rfl) (dst_lt (d := 25) (by kernel_rfl) (Nat.le_of_ble_eq_true (by kernel_rfl))) (S' := ?_) ?_ ?_
  rotate_left
  · simp (config := { maxSteps := 1000000 }) (disch := omega) only [push_cast, ↓reduceIte, Nat.reduceEqDiff, Nat.reduceAdd, Nat.reduceLT, Nat.reduceLeDiff, Nat.reduceBEq, Nat.reduceMul, Nat.reduceSub, Int.reduceToNat, Int.reduceEq, Int.reduceLT, Int.reduceLE, Int.reduceNeg, Int.reduceAdd, Int.reduceSub, Int.reduceMul, Try.f26, kr26, ty3, ty4, ty22, ty24, ty29, tb4, opA, opAt, wR6, wR5, wR4, wBody, sA, sB, hsl, St.add]
    rfl
  refine walko_op (lim_sound mixed pr0_ok) (by kernel_rfl) (dst_lt (d := 26) (by kernel_rfl) (Nat.le_of_ble_eq_true (by kernel_rfl))) (S' := ?_) ?_ ?_
  rotate_left
  · simp (config := { maxSteps := 1000000 }) (disch := omega) only [push_cast, ↓reduceIte, Nat.reduceEqDiff, Nat.reduceAdd, Nat.reduceLT, Nat.reduceLeDiff, Nat.reduceBEq, Nat.reduceMul, Nat.reduceSub, Int.reduceToNat, Int.reduceEq, Int.reduceLT, Int.reduceLE, Int.reduceNeg, Int.reduceAdd, Int.reduceSub, Int.reduceMul, Try.f26, kr26, ty3, ty4, ty22, ty24, ty29, tb4, opA, opAt, wR6, wR5, wR4, wBody, sA, sB, hsl, St.add]
    rfl
  refine walko_op (lim_sound mixed pr0_ok) (by kernel_rfl) (dst_lt (d := 4) (by kernel_rfl) (Nat.le_of_ble_eq_true (by kernel_rfl))) (S' := ?_) ?_ ?_
  rotate_left
  · simp (config := { maxSteps := 1000000 }) (disch := omega) only [push_cast, ↓reduceIte, Nat.reduceEqDiff, Nat.reduceAdd, Nat.reduceLT, Nat.reduceLeDiff, Nat.reduceBEq, Nat.reduceMul, Nat.reduceSub, Int.reduceToNat, Int.reduceEq, Int.reduceLT, Int.reduceLE, Int.reduceNeg, Int.reduceAdd, Int.reduceSub, Int.reduceMul, Try.f26, kr26, ty3, ty4, ty22, ty24, ty29, tb4, opA, opAt, wR6, wR5, wR4, wBody, sA, sB, hsl, St.add]
    rfl
  refine walko_op (lim_sound mixed pr0_ok) (by kernel_rfl) (dst_lt (d := 5) (by kernel_rfl) (Nat.le_of_ble_eq_true (by kernel_rfl))) (S' := ?_) ?_ ?_
  rotate_left
  · simp (config := { maxSteps := 1000000 }) (disch := omega) only [push_cast, ↓reduceIte, Nat.reduceEqDiff, Nat.reduceAdd, Nat.reduceLT, Nat.reduceLeDiff, Nat.reduceBEq, Nat.reduceMul, Nat.reduceSub, Int.reduceToNat, Int.reduceEq, Int.reduceLT, Int.reduceLE, Int.reduceNeg, Int.reduceAdd, Int.reduceSub, Int.reduceMul, Try.f26, kr26, ty3, ty4, ty22, ty24, ty29, tb4, opA, opAt, wR6, wR5, wR4, wBody, sA, sB, hsl, St.add]
    rfl
  show WalkL E0.P Try.f26.ntmps w F [.ret] _ _
  refine walk_ret ⟨.inr rfl, ?_⟩
  have hd : decide (((cpt (sortQ (placesR a E S))).length : Int) < (placesR a E S).length) = decide (¬ (placesR a E S).Nodup) := by
    rw [decide_eq_decide, ← htw]; omega
  simp (config := { maxSteps := 1000000 }) (disch := omega) only [push_cast, ↓reduceIte, Nat.reduceEqDiff, Nat.reduceAdd, Nat.reduceLT, Nat.reduceLeDiff, Nat.reduceBEq, Nat.reduceMul, Nat.reduceSub, Int.reduceToNat, Int.reduceEq, Int.reduceLT, Int.reduceLE, Int.reduceNeg, Int.reduceAdd, Int.reduceSub, Int.reduceMul, Try.f26, kr26, ty3, ty4, ty22, ty24, ty29, tb4, retT, hd, St.add]
theorem twice_all (hE : (E.length : Int) ≤ 9223372036854775806) (hS : (S.length : Int) ≤ 9223372036854775806) :
    CallsR E0.P 26 [SL b1 c1 E.length (ints E), Rf ar a b2 c2 S] (.tup [B (decide (¬ (placesR a E S).Nodup)), I (errR a E S)], []) := by
  by_cases h : okR a E S
  · rw [show errR a E S = 0 from if_pos h]
    exact twice_walk ar a b1 b2 c1 c2 E S h
  · rw [show errR a E S = 2 from if_neg h, show placesR a E S = [] from if_neg h]
    have hp := fun b c b' c' => o_Places ar a b b' c c' E S hE hS
    rw [show errR a E S = 2 from if_neg h, show placesR a E S = [] from if_neg h] at hp
    refine lim_sound mixed pr0_ok _ _ _ ?_
    show CALL 26 _ = _
    refine lim_run (fn := Try.f26) fn26 rfl body26 (Nat.le_of_ble_eq_true rfl) ok26 ?_
    simp (config := { maxSteps := 1000000 }) (disch := omega) only [push_cast, ↓reduceIte, Nat.reduceEqDiff, Nat.reduceAdd, Nat.reduceLT, Nat.reduceLeDiff, Nat.reduceBEq, Nat.reduceMul, Nat.reduceSub, Int.reduceToNat, Int.reduceEq, Int.reduceLT, Int.reduceLE, Int.reduceNeg, Int.reduceAdd, Int.reduceSub, Int.reduceMul, Try.f26, kr26, ty3, ty4, ty22, ty24, ty29, tb4, hp, ne_eq, List.nodup_nil]
end
/-- The functions that are told later. -/
def NEW : List Nat := [14, 18, 19, 11, 3, 5, 6, 7, 8]
def Sp1 (f : FuncId) (xs : List T) (r : R) : Prop :=
  (f = 12 ∧ ∃ (ar a : Int) (b1 b2 b3 : Bool) (c1 c2 c3 : Option Nat) (E S : List Int) (ar' b : Int) (S' : List Int), (E.length : Int) ≤ 9223372036854775806 ∧ (S.length : Int) ≤ 9223372036854775806 ∧ (S'.length : Int) ≤ 9223372036854775806 ∧
    xs = [SL b1 c1 E.length (ints E), Rf ar a b2 c2 S, Rf ar' b b3 c3 S'] ∧ r = pairsRes (meetL ar a E S ar' b S') (errRR a E S b S')) ∨
  (f = 26 ∧ ∃ (ar a : Int) (b1 b2 : Bool) (c1 c2 : Option Nat) (E S : List Int), (E.length : Int) ≤ 9223372036854775806 ∧ (S.length : Int) ≤ 9223372036854775806 ∧
    xs = [SL b1 c1 E.length (ints E), Rf ar a b2 c2 S] ∧ r = (.tup [B (decide (¬ (placesR a E S).Nodup)), I (errR a E S)], []))
theorem Sp1_ok (f : FuncId) (xs : List T) (r : R) (h : Sp1 f xs r) : CallsR E0.P f xs r := by
  rcases h with ⟨rfl, ar, a, b1, b2, b3, c1, c2, c3, E, S, ar', b, S', h1, h2, h3, rfl, rfl⟩ | ⟨rfl, ar, a, b1, b2, c1, c2, E, S, h1, h2, rfl, rfl⟩
  · exact pairs_all ar a b1 b2 b3 c1 c2 c3 E S ar' b S' h1 h2 h3
  · exact twice_all ar a b1 b2 c1 c2 E S h1 h2
theorem SLi_inj {b b' : Bool} {c c' : Option Nat} {l l' : List Int} (h : SL b c l.length (ints l) = SL b' c' l'.length (ints l')) : l = l' := ints_inj (SL_inj h)
theorem Rf_inj {ar ar' a a' : Int} {b b' : Bool} {c c' : Option Nat} {l l' : List Int} (h : Rf ar a b c l = Rf ar' a' b' c' l') : ar = ar' ∧ a = a' ∧ l = l' := by
  simp only [T.agg.injEq, List.cons.injEq, T.c.injEq, C.v.injEq, Value.int.injEq, true_and, and_true] at h
  exact ⟨h.1, h.2.1, SLi_inj h.2.2⟩
theorem Sp1_one {f : FuncId} {xs : List T} {r r' : R} (h : Sp1 f xs r) (h' : Sp1 f xs r') : r' = r := by
  rcases h with ⟨rfl, ar, a, b1, b2, b3, c1, c2, c3, E, S, ar', b, S', h1, h2, h3, rfl, rfl⟩ | ⟨rfl, ar, a, b1, b2, c1, c2, E, S, h1, h2, rfl, rfl⟩
  · rcases h' with ⟨_, ar1, a1, b11, b21, b31, c11, c21, c31, E1, S1, ar1', b1', S1', _, _, _, e, rfl⟩ | ⟨q, _⟩
    · simp only [List.cons.injEq, and_true] at e
      obtain ⟨e1, e2, e3⟩ := e
      obtain rfl := SLi_inj e1
      obtain ⟨rfl, rfl, rfl⟩ := Rf_inj e2
      obtain ⟨rfl, rfl, rfl⟩ := Rf_inj e3
      rfl
    · exact absurd q (by decide)
  · rcases h' with ⟨q, _⟩ | ⟨_, ar1, a1, b11, b21, c11, c21, E1, S1, _, _, e, rfl⟩
    · exact absurd q (by decide)
    · simp only [List.cons.injEq, and_true] at e
      obtain ⟨e1, e2⟩ := e
      obtain rfl := SLi_inj e1
      obtain ⟨rfl, rfl, rfl⟩ := Rf_inj e2
      rfl
noncomputable def pr1 : FuncId → List T → Option R := relP Sp1 (butP NEW CALL)
theorem pr1_ok : CallOK E0.P pr1 := relP_ok Sp1_ok (butP_ok (lim_sound mixed pr0_ok))
noncomputable abbrev CALL1 := (lim E0 pr1).call
theorem Sp1_not {f : FuncId} (h : f ≠ 12 ∧ f ≠ 26) (xs : List T) (r : R) : ¬ Sp1 f xs r := fun q => by
  rcases q with ⟨q, _⟩ | ⟨q, _⟩
  · exact h.1 q
  · exact h.2 q
theorem pr1_none {f : FuncId} (h : (f ≠ 12 ∧ f ≠ 26) ∧ f ∈ NEW) (xs : List T) : pr1 f xs = none := (relP_none (Sp1_not h.1 xs)).trans (if_pos h.2)
theorem old1 {f : FuncId} {xs : List T} {r : R} (h : (f ≠ 12 ∧ f ≠ 26) ∧ f ∉ NEW) (hc : CALL f xs = some r) : CALL1 f xs = some r :=
  lim_pr ((relP_none (Sp1_not h.1 xs)).trans ((if_neg h.2).trans hc))
theorem s1_Pairs (ar a : Int) (b1 b2 b3 : Bool) (c1 c2 c3 : Option Nat) (E S : List Int) (ar' b : Int) (S' : List Int) (h1 : (E.length : Int) ≤ 9223372036854775806) (h2 : (S.length : Int) ≤ 9223372036854775806) (h3 : (S'.length : Int) ≤ 9223372036854775806) :
    CALL1 12 [SL b1 c1 E.length (ints E), Rf ar a b2 c2 S, Rf ar' b b3 c3 S'] = some (pairsRes (meetL ar a E S ar' b S') (errRR a E S b S')) :=
  lim_pr (relP_of (.inl ⟨rfl, ar, a, b1, b2, b3, c1, c2, c3, E, S, ar', b, S', h1, h2, h3, rfl, rfl⟩) fun r' h => Sp1_one (.inl ⟨rfl, ar, a, b1, b2, b3, c1, c2, c3, E, S, ar', b, S', h1, h2, h3, rfl, rfl⟩) h)
theorem s1_Twice (ar a : Int) (b1 b2 : Bool) (c1 c2 : Option Nat) (E S : List Int) (h1 : (E.length : Int) ≤ 9223372036854775806) (h2 : (S.length : Int) ≤ 9223372036854775806) :
    CALL1 26 [SL b1 c1 E.length (ints E), Rf ar a b2 c2 S] = some (.tup [B (decide (¬ (placesR a E S).Nodup)), I (errR a E S)], []) :=
  lim_pr (relP_of (.inr ⟨rfl, ar, a, b1, b2, c1, c2, E, S, h1, h2, rfl, rfl⟩) fun r' h => Sp1_one (.inr ⟨rfl, ar, a, b1, b2, c1, c2, E, S, h1, h2, rfl, rfl⟩) h)
end Go.Proofs.Ytancjhajhdhfbaa.Tev
