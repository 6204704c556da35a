/- The kernels of quadratlaw19.Awake: what they load, and that they are right. -/
import Derived.Test.YtnbijiopcgfmfaaC17p
import Derived.Test.YtnbijiopcgfmfaaTevFree
import Derived.Test.YtnbijiopcgfmfaaCTwi
namespace Go.Proofs.Ytnbijiopcgfmfaa.Tev
open Go Go.RowKit Go.Proofs Go.Proofs.Ytnbijiopcgfmfaa.Q
set_option linter.unusedSectionVars false
set_option maxRecDepth 100000
set_option maxHeartbeats 0
set_option linter.unusedSimpArgs false
set_option linter.unusedVariables false
theorem range_7 : List.range 7 = [0, 1, 2, 3, 4, 5, 6] := rfl
theorem range_11 : List.range 11 = [0, 1, 2, 3, 4, 5, 6, 7, 8, 9, 10] := rfl
theorem SLt (c : Option Nat) (n : Nat) (l : List C) : SL true c n l = .c (.s c n l) := rfl
theorem USt (c : Option Nat) (n : Nat) (l : List C) : US true c n l = .c (.s c n l) := rfl
theorem expC_s1 (S : St) (acc : List Nat × List (List C)) (c : Option Nat) (n : Nat) (x : C) (l : List C) (sz : Option Nat) : expC S acc (.c (.s c n (x :: l))) sz = some (.c (.s c n (x :: l)), acc.1, acc.2) := by
  unfold expC
  split <;> first | rfl | (simp_all; done)
abbrev O1 : T := .c (.s none 1 [CI 1])
abbrev N0 : T := .c (.s none 0 [])
abbrev refC (f z : Int) : List C := [CI f, CI z, .s none 1 [CI 1]]
abbrev setC (t f z : Int) : List C := [CI t, CI 0, .s none 1 [CI 1], .s none 0 [], .v (.string (ByteArray.mk #[108, 111, 97, 100])), CI 1, CI 0, CI f, CI z, .s none 1 [CI 1], .s none 0 []]
abbrev KT (c1 c2 : Option Nat) (t f z : Int) : T := .agg [.c (.s c1 1 [CI 4]), .c (.s c2 1 (setC t f z))]
theorem rowAt_11 (x1 x2 x3 x4 x5 x6 x7 x8 x9 x10 x11 : C) : rowAt [x1, x2, x3, x4, x5, x6, x7, x8, x9, x10, x11] 0 11 = [x1, x2, x3, x4, x5, x6, x7, x8, x9, x10, x11] := rfl
theorem k_set (t f z : Int) : CALL 46 [I t, I f, I z] = some (.agg [I t, I 0, .sl 0 0 1 1 none, .sl 1 0 0 7 none, .c (.v (.string (ByteArray.mk #[108, 111, 97, 100]))), I 1, I 0, I f, I z, .sl 2 0 1 1 none, .sl 3 0 0 7 none], [[CI 1], [], [CI 1], []]) := by
  refine lim_run (fn := Try.f46) fn46 rfl body46 (Nat.le_of_ble_eq_true rfl) ok46 ?_
  simp (config := { maxSteps := 1000000 }) (disch := omega) only [push_cast, ↓reduceIte, Nat.reduceEqDiff, Nat.reduceAdd, Nat.reduceLT, Nat.reduceLeDiff, Nat.reduceBEq, Nat.reduceMul, Nat.reduceSub, Int.reduceToNat, Int.reduceEq, Int.reduceLT, Int.reduceLE, Int.reduceNeg, Int.reduceAdd, Int.reduceSub, Int.reduceMul, Try.f46, kr46, ty3, ty9, ty28, ty30, ty85, ty87, ty89, SLt, USt, range_11]
theorem k_loads (f z : Int) : CALL 118 [.agg [.c (.v (.string (ByteArray.mk #[108, 111, 97, 100]))), I 1, I 0, I f, I z, O1, N0]] = some (.sl 0 0 1 3 none, [refC f z]) := by
  have lq := fun S0 => lp_eq (S0 := S0) (pr := pr0) lp118_3
  refine lim_run (fn := Try.f118) fn118 rfl body118 (Nat.le_of_ble_eq_true rfl) ok118 ?_
  simp (config := { maxSteps := 1000000 }) (disch := omega) only [push_cast, ↓reduceIte, Nat.reduceEqDiff, Nat.reduceAdd, Nat.reduceLT, Nat.reduceLeDiff, Nat.reduceBEq, Nat.reduceMul, Nat.reduceSub, Int.reduceToNat, Int.reduceEq, Int.reduceLT, Int.reduceLE, Int.reduceNeg, Int.reduceAdd, Int.reduceSub, Int.reduceMul, Try.f118, kr118, kp118_3, ow118_3, ty3, ty9, ty28, ty30, ty85, ty87, ty146, SLt, USt, range_7, lq]
theorem k_setLoads (t f z : Int) : CALL 104 [.agg [I t, I 0, O1, N0, .c (.v (.string (ByteArray.mk #[108, 111, 97, 100]))), I 1, I 0, I f, I z, O1, N0]] = some (.sl 0 0 1 3 none, [refC f z]) := by
  have lq := fun S0 => lp_eq (S0 := S0) (pr := pr0) lp104_3
  refine lim_run (fn := Try.f104) fn104 rfl body104 (Nat.le_of_ble_eq_true rfl) ok104 ?_
  simp (config := { maxSteps := 1000000 }) (disch := omega) only [push_cast, ↓reduceIte, Nat.reduceEqDiff, Nat.reduceAdd, Nat.reduceLT, Nat.reduceLeDiff, Nat.reduceBEq, Nat.reduceMul, Nat.reduceSub, Int.reduceToNat, Int.reduceEq, Int.reduceLT, Int.reduceLE, Int.reduceNeg, Int.reduceAdd, Int.reduceSub, Int.reduceMul, Try.f104, kr104, kp104_3, ow104_3, ty3, ty9, ty28, ty30, ty85, ty87, ty89, ty146, SLt, USt, range_7, k_loads, lq]
theorem k_part (c1 c2 : Option Nat) (t f z : Int) : CALL 107 [KT c1 c2 t f z, I 0] = some (KT c1 (c2.map (· - 0)) t f z, []) := by
  refine lim_run (fn := Try.f107) fn107 rfl body107 (Nat.le_of_ble_eq_true rfl) ok107 ?_
  simp (config := { maxSteps := 1000000 }) (disch := omega) only [push_cast, ↓reduceIte, Nat.reduceEqDiff, Nat.reduceAdd, Nat.reduceLT, Nat.reduceLeDiff, Nat.reduceBEq, Nat.reduceMul, Nat.reduceSub, Int.reduceToNat, Int.reduceEq, Int.reduceLT, Int.reduceLE, Int.reduceNeg, Int.reduceAdd, Int.reduceSub, Int.reduceMul, Try.f107, kr107, ty3, ty9, ty28, ty30, ty85, ty87, ty89, ty91, ty93, SLt, USt, expC_s1, range_11, rowAt_11]
theorem k_cloneRef (f z : Int) : CALL 119 [.agg [I f, I z, O1]] = some (.agg [I f, I z, .sl 0 0 1 1 none], [[CI 1]]) := by
  have hc : ∀ c, CALL 43 [.c (.s c 1 [CI 1])] = some (.sl 0 0 1 1 none, [[CI 1]]) := fun c => c_Clone true c [1] (by decide)
  refine lim_run (fn := Try.f119) fn119 rfl body119 (Nat.le_of_ble_eq_true rfl) ok119 ?_
  simp (config := { maxSteps := 1000000 }) (disch := omega) only [push_cast, ↓reduceIte, Nat.reduceEqDiff, Nat.reduceAdd, Nat.reduceLT, Nat.reduceLeDiff, Nat.reduceBEq, Nat.reduceMul, Nat.reduceSub, Int.reduceToNat, Int.reduceEq, Int.reduceLT, Int.reduceLE, Int.reduceNeg, Int.reduceAdd, Int.reduceSub, Int.reduceMul, Try.f119, kr119, ty3, ty28, ty30, SLt, USt, range_11, rowAt_11, hc]
theorem k_Contains (g : FuncId) (caps : List T) (p : Bool) (f z : Int) (hg : CALL g (.agg [I f, I z, O1] :: caps) = some (B p, [])) (hc : Shut caps) (b : Bool) (cap : Option Nat) :
    CALL 103 [SL b cap 1 (refC f z), .fn g caps] = some (B p, []) := by
  have h : CALL 117 [SL b cap 1 (refC f z), .fn g caps] = some (I (if p then 0 else -1), []) := by
    have lq := fun S0 => lp_eq (S0 := S0) (pr := pr0) lp117_2
    refine lim_run (fn := Try.f117) fn117 rfl body117 (Nat.le_of_ble_eq_true rfl) ok117 ?_
    cases p <;> simp (config := { maxSteps := 1000000 }) (disch := omega) only [push_cast, ↓reduceIte, Nat.reduceEqDiff, Nat.reduceAdd, Nat.reduceLT, Nat.reduceLeDiff, Nat.reduceBEq, Nat.reduceMul, Nat.reduceSub, Int.reduceToNat, Int.reduceEq, Int.reduceLT, Int.reduceLE, Int.reduceNeg, Int.reduceAdd, Int.reduceSub, Int.reduceMul, Try.f117, kr117, kp117_2, ow117_2, ty3, ty28, ty30, ty146, SLt, USt, shut_snap _ hc, shut_foc _ _ _ hc, map_nrm, lq, hg]
  refine lim_run (fn := Try.f103) fn103 rfl body103 (Nat.le_of_ble_eq_true rfl) ok103 ?_
  cases p <;> simp (config := { maxSteps := 1000000 }) (disch := omega) only [push_cast, ↓reduceIte, Nat.reduceEqDiff, Nat.reduceAdd, Nat.reduceLT, Nat.reduceLeDiff, Nat.reduceBEq, Nat.reduceMul, Nat.reduceSub, Int.reduceToNat, Int.reduceEq, Int.reduceLT, Int.reduceLE, Int.reduceNeg, Int.reduceAdd, Int.reduceSub, Int.reduceMul, Try.f103, kr103, ty4, tb4, SLt, USt, shut_snap _ hc, shut_foc _ _ _ hc, map_nrm, h]
theorem k_Formed1 (f z : Int) (hz : okR z [4] [1]) (c1 c2 : Option Nat) (t g y : Int) : CALL 105 [.agg [I f, I z, O1], .rb [.c (.s c1 1 [CI 4]), .c (.s c2 1 (setC t g y))] 0] = some (B false, []) := by
  have hv : ∀ c1 c2, CALL 38 [.c (.s c1 1 [CI 4]), .agg [I f, I z, .c (.s c2 1 [CI 1])]] = some (B true, []) := fun c1 c2 => by
    have := o_Valid f z true true c1 c2 [4] [1] (by decide) (by decide)
    rw [decide_eq_true hz] at this
    exact this
  refine lim_run (fn := Try.f105) fn105 rfl body105 (Nat.le_of_ble_eq_true rfl) ok105 ?_
  simp (config := { maxSteps := 1000000 }) (disch := omega) only [push_cast, ↓reduceIte, Nat.reduceEqDiff, Nat.reduceAdd, Nat.reduceLT, Nat.reduceLeDiff, Nat.reduceBEq, Nat.reduceMul, Nat.reduceSub, Int.reduceToNat, Int.reduceEq, Int.reduceLT, Int.reduceLE, Int.reduceNeg, Int.reduceAdd, Int.reduceSub, Int.reduceMul, Try.f105, kr105, ty3, ty4, ty9, ty28, ty30, ty85, ty87, ty89, ty91, ty93, tb4, SLt, USt, hv]
theorem k_Formed (c1 c2 : Option Nat) (t f z : Int) (hz : okR z [4] [1]) : CALL 87 [KT c1 c2 t f z] = some (B true, []) := by
  have hv : ∀ t z, okR z [4] [1] → ∀ c1 c2, CALL 38 [.c (.s c1 1 [CI 4]), .agg [I t, I z, .c (.s c2 1 [CI 1])]] = some (B true, []) := fun t z hz c1 c2 => by
    have := o_Valid t z true true c1 c2 [4] [1] (by decide) (by decide)
    rw [decide_eq_true hz] at this
    exact this
  have h0 := hv t 0 (by decide)
  have hm : ∀ c, CALL 39 [.c (.s c 1 [CI 4])] = some (I 4, []) := fun c => o_Many true c [4] (by decide)
  have lq := fun S0 => lp_eq (S0 := S0) (pr := pr0) lp87_4
  have hk := k_Contains 105 [.rb [.c (.s c1 1 [CI 4]), .c (.s c2 1 (setC t f z))] 0] false f z (k_Formed1 f z hz c1 c2 t f z) (shut_rb _ _) false none
  refine lim_run (fn := Try.f87) fn87 rfl body87 (Nat.le_of_ble_eq_true rfl) ok87 ?_
  simp (config := { maxSteps := 1000000 }) (disch := omega) only [push_cast, ↓reduceIte, Nat.reduceEqDiff, Nat.reduceAdd, Nat.reduceLT, Nat.reduceLeDiff, Nat.reduceBEq, Nat.reduceMul, Nat.reduceSub, Int.reduceToNat, Int.reduceEq, Int.reduceLT, Int.reduceLE, Int.reduceNeg, Int.reduceAdd, Int.reduceSub, Int.reduceMul, Try.f87, kr87, kp87_4, ow87_4, ty3, ty4, ty9, ty28, ty30, ty85, ty87, ty89, ty91, ty93, tb4, SLt, USt, range_11, rowAt_11, h0, hm, lq, k_setLoads, hk]
theorem k_Loads (c1 c2 : Option Nat) (t f z : Int) (hz : okR z [4] [1]) : CALL 106 [KT c1 c2 t f z, I 0] = some (.tup [.sl 0 0 1 3 none, I 0], [refC f z]) := by
  have lq := fun S0 => lp_eq (S0 := S0) (pr := pr0) lp106_5
  have hf := k_Formed c1 c2 t f z hz
  refine lim_run (fn := Try.f106) fn106 rfl body106 (Nat.le_of_ble_eq_true rfl) ok106 ?_
  simp (config := { maxSteps := 1000000 }) (disch := omega) only [push_cast, ↓reduceIte, Nat.reduceEqDiff, Nat.reduceAdd, Nat.reduceLT, Nat.reduceLeDiff, Nat.reduceBEq, Nat.reduceMul, Nat.reduceSub, Int.reduceToNat, Int.reduceEq, Int.reduceLT, Int.reduceLE, Int.reduceNeg, Int.reduceAdd, Int.reduceSub, Int.reduceMul, Try.f106, kr106, kp106_5, ow106_5, ty3, ty9, ty25, ty28, ty30, ty85, ty87, ty89, ty91, ty93, ty146, SLt, USt, range_11, rowAt_11, lq, k_setLoads, hf, k_cloneRef]
theorem dist0 (ar a ar' a' : Int) (h : apartL (meetL ar a [4] [1] ar' a' [1]) = []) : distL ar a [4] [1] ar' a' [1] = [] := by
  unfold distL
  rw [h, setQ_nil]
theorem dist1 (ar a ar' a' x : Int) (h0 : apartL (meetL ar a [4] [1] ar' a' [1]) ≠ []) (h : ∀ z ∈ apartL (meetL ar a [4] [1] ar' a' [1]), z = x) : distL ar a [4] [1] ar' a' [1] = [x] := by
  unfold distL
  refine strict_ext (setQ_strict _) (List.pairwise_singleton _ _) fun z => ?_
  rw [setQ_mem, List.mem_singleton]
  refine ⟨h z, ?_⟩
  rintro rfl
  obtain ⟨y, hy⟩ := List.exists_mem_of_ne_nil _ h0
  rwa [← h y hy]
theorem k_ends0 (c1 : Option Nat) (ar a ar' a' : Int) (h : errRR a [4] [1] a' [1] = 0) (hd : distL ar a [4] [1] ar' a' [1] = []) : CALL2 120 [.c (.s c1 1 [CI 4]), .agg [I ar, I a, O1], .agg [I ar', I a', O1]] = some (.tup [I 0, I 0, B false], []) := by
  have hp := s2_Dist ar a true true true c1 none none [4] [1] ar' a' [1] (by decide) (by decide) (by decide)
  unfold distR at hp
  rw [h, hd] at hp
  have hp : CALL2 122 [.c (.s c1 1 [CI 4]), .agg [I ar, I a, O1], .agg [I ar', I a', O1]] = some (.tup [.sl 0 0 0 1 none, I 0], [[]]) := hp
  refine lim_run (fn := Try.f120) fn120 (pr2_none (by decide) _) body120 (Nat.le_of_ble_eq_true rfl) ok120 ?_
  simp (config := { maxSteps := 1000000 }) (disch := omega) only [push_cast, ↓reduceIte, Nat.reduceEqDiff, Nat.reduceAdd, Nat.reduceLT, Nat.reduceLeDiff, Nat.reduceBEq, Nat.reduceMul, Nat.reduceSub, Int.reduceToNat, Int.reduceEq, Int.reduceLT, Int.reduceLE, Int.reduceNeg, Int.reduceAdd, Int.reduceSub, Int.reduceMul, Try.f120, kr120, ty3, ty4, ty28, ty30, tb4, SLt, USt, hp]
theorem k_ends1 (c1 : Option Nat) (ar a ar' a' x : Int) (h : errRR a [4] [1] a' [1] = 0) (hd : distL ar a [4] [1] ar' a' [1] = [x]) : CALL2 120 [.c (.s c1 1 [CI 4]), .agg [I ar, I a, O1], .agg [I ar', I a', O1]] = some (.tup [I x, I x, B true], []) := by
  have hp := s2_Dist ar a true true true c1 none none [4] [1] ar' a' [1] (by decide) (by decide) (by decide)
  unfold distR at hp
  rw [h, hd] at hp
  have hp : CALL2 122 [.c (.s c1 1 [CI 4]), .agg [I ar, I a, O1], .agg [I ar', I a', O1]] = some (.tup [.sl 0 0 1 1 none, I 0], [[CI x]]) := hp
  refine lim_run (fn := Try.f120) fn120 (pr2_none (by decide) _) body120 (Nat.le_of_ble_eq_true rfl) ok120 ?_
  simp (config := { maxSteps := 1000000 }) (disch := omega) only [push_cast, ↓reduceIte, Nat.reduceEqDiff, Nat.reduceAdd, Nat.reduceLT, Nat.reduceLeDiff, Nat.reduceBEq, Nat.reduceMul, Nat.reduceSub, Int.reduceToNat, Int.reduceEq, Int.reduceLT, Int.reduceLE, Int.reduceNeg, Int.reduceAdd, Int.reduceSub, Int.reduceMul, Try.f120, kr120, ty3, ty4, ty28, ty30, tb4, SLt, USt, hp]
theorem k_earlier0 (c1 : Option Nat) (ar a ar' a' : Int) (h : errRR a [4] [1] a' [1] = 0) (hd : distL ar a [4] [1] ar' a' [1] = []) : CALL2 109 [.c (.s c1 1 [CI 4]), .agg [I ar, I a, O1], .agg [I ar', I a', O1]] = some (B false, []) := by
  have hp := k_ends0 c1 ar a ar' a' h hd
  refine lim_run (fn := Try.f109) fn109 (pr2_none (by decide) _) body109 (Nat.le_of_ble_eq_true rfl) ok109 ?_
  simp (config := { maxSteps := 1000000 }) (disch := omega) only [push_cast, ↓reduceIte, Nat.reduceEqDiff, Nat.reduceAdd, Nat.reduceLT, Nat.reduceLeDiff, Nat.reduceBEq, Nat.reduceMul, Nat.reduceSub, Int.reduceToNat, Int.reduceEq, Int.reduceLT, Int.reduceLE, Int.reduceNeg, Int.reduceAdd, Int.reduceSub, Int.reduceMul, Try.f109, kr109, ty3, ty4, ty28, ty30, tb4, SLt, USt, hp]
theorem k_earlier1 (c1 : Option Nat) (ar a ar' a' x : Int) (h : errRR a [4] [1] a' [1] = 0) (hd : distL ar a [4] [1] ar' a' [1] = [x]) : CALL2 109 [.c (.s c1 1 [CI 4]), .agg [I ar, I a, O1], .agg [I ar', I a', O1]] = some (B (decide (x < 0)), []) := by
  have hp := k_ends1 c1 ar a ar' a' x h hd
  refine lim_run (fn := Try.f109) fn109 (pr2_none (by decide) _) body109 (Nat.le_of_ble_eq_true rfl) ok109 ?_
  simp (config := { maxSteps := 1000000 }) (disch := omega) only [push_cast, ↓reduceIte, Nat.reduceEqDiff, Nat.reduceAdd, Nat.reduceLT, Nat.reduceLeDiff, Nat.reduceBEq, Nat.reduceMul, Nat.reduceSub, Int.reduceToNat, Int.reduceEq, Int.reduceLT, Int.reduceLE, Int.reduceNeg, Int.reduceAdd, Int.reduceSub, Int.reduceMul, Try.f109, kr109, ty3, ty4, ty28, ty30, tb4, SLt, USt, hp]
/-- Earlier, for the Refs of the example: the store of a, and the loads of b, c and a, the store of the others. -/
theorem e_ab (c1 : Option Nat) : CALL2 109 [.c (.s c1 1 [CI 4]), .agg [I 0, I 0, O1], .agg [I 0, I 1, O1]] = some (B true, []) :=
  k_earlier1 c1 0 0 0 1 (-1) (by decide) (dist1 0 0 0 1 (-1) (by decide) (by decide))
theorem e_ac (c1 : Option Nat) : CALL2 109 [.c (.s c1 1 [CI 4]), .agg [I 0, I 0, O1], .agg [I 0, I 0, O1]] = some (B false, []) :=
  k_earlier1 c1 0 0 0 0 0 (by decide) (dist1 0 0 0 0 0 (by decide) (by decide))
theorem e_lo (c1 : Option Nat) : CALL2 109 [.c (.s c1 1 [CI 4]), .agg [I 1, I 0, O1], .agg [I 2, I 0, O1]] = some (B false, []) :=
  k_earlier0 c1 1 0 2 0 (by decide) (dist0 1 0 2 0 (by decide))
theorem e_so (c1 : Option Nat) : CALL2 109 [.c (.s c1 1 [CI 4]), .agg [I 0, I 0, O1], .agg [I 2, I 0, O1]] = some (B false, []) :=
  k_earlier0 c1 0 0 2 0 (by decide) (dist0 0 0 2 0 (by decide))
theorem k_Contains2 (g : FuncId) (caps : List T) (p : Bool) (f z : Int) (hg : CALL2 g (.agg [I f, I z, O1] :: caps) = some (B p, [])) (hc : Shut caps) (b : Bool) (cap : Option Nat) :
    CALL2 103 [SL b cap 1 (refC f z), .fn g caps] = some (B p, []) := by
  have h : CALL2 117 [SL b cap 1 (refC f z), .fn g caps] = some (I (if p then 0 else -1), []) := by
    have lq := fun S0 => lp_eq (S0 := S0) (pr := pr2) lp117_2
    refine lim_run (fn := Try.f117) fn117 (pr2_none (by decide) _) body117 (Nat.le_of_ble_eq_true rfl) ok117 ?_
    cases p <;> simp (config := { maxSteps := 1000000 }) (disch := omega) only [push_cast, ↓reduceIte, Nat.reduceEqDiff, Nat.reduceAdd, Nat.reduceLT, Nat.reduceLeDiff, Nat.reduceBEq, Nat.reduceMul, Nat.reduceSub, Int.reduceToNat, Int.reduceEq, Int.reduceLT, Int.reduceLE, Int.reduceNeg, Int.reduceAdd, Int.reduceSub, Int.reduceMul, Try.f117, kr117, kp117_2, ow117_2, ty3, ty28, ty30, ty146, SLt, USt, shut_snap _ hc, shut_foc _ _ _ hc, map_nrm, lq, hg]
  refine lim_run (fn := Try.f103) fn103 (pr2_none (by decide) _) body103 (Nat.le_of_ble_eq_true rfl) ok103 ?_
  cases p <;> simp (config := { maxSteps := 1000000 }) (disch := omega) only [push_cast, ↓reduceIte, Nat.reduceEqDiff, Nat.reduceAdd, Nat.reduceLT, Nat.reduceLeDiff, Nat.reduceBEq, Nat.reduceMul, Nat.reduceSub, Int.reduceToNat, Int.reduceEq, Int.reduceLT, Int.reduceLE, Int.reduceNeg, Int.reduceAdd, Int.reduceSub, Int.reduceMul, Try.f103, kr103, ty4, tb4, SLt, USt, shut_snap _ hc, shut_foc _ _ _ hc, map_nrm, h]
section
variable (c1 c2 : Option Nat) (t f z to b0 x y : Int) (p : Bool)
/-- The first closure: the store of the one ahead of a load of the other. -/
theorem k_h1 (he : CALL2 109 [.c (.s c1 1 [CI 4]), .agg [I to, I b0, O1], .agg [I x, I y, O1]] = some (B p, [])) :
    CALL2 108 [.agg [I x, I y, O1], .rb [.c (.s c1 1 [CI 4]), .c (.s c2 1 (setC t f z))] 0, .rb [.c (CI to), .c (CI b0), .c (.s none 1 [CI 1])] 0] = some (B p, []) := by
  refine lim_run (fn := Try.f108) fn108 (pr2_none (by decide) _) body108 (Nat.le_of_ble_eq_true rfl) ok108 ?_
  simp (config := { maxSteps := 1000000 }) (disch := omega) only [push_cast, ↓reduceIte, Nat.reduceEqDiff, Nat.reduceAdd, Nat.reduceLT, Nat.reduceLeDiff, Nat.reduceBEq, Nat.reduceMul, Nat.reduceSub, Int.reduceToNat, Int.reduceEq, Int.reduceLT, Int.reduceLE, Int.reduceNeg, Int.reduceAdd, Int.reduceSub, Int.reduceMul, Try.f108, kr108, ty3, ty4, ty9, ty28, ty30, ty85, ty87, ty89, ty91, ty93, tb4, SLt, USt, he]
theorem k_h2 (he : CALL2 109 [.c (.s c1 1 [CI 4]), .agg [I x, I y, O1], .agg [I to, I b0, O1]] = some (B p, [])) :
    CALL2 110 [.agg [I x, I y, O1], .rb [.c (.s c1 1 [CI 4]), .c (.s c2 1 (setC t f z))] 0, .rb [.c (CI to), .c (CI b0), .c (.s none 1 [CI 1])] 0] = some (B p, []) := by
  refine lim_run (fn := Try.f110) fn110 (pr2_none (by decide) _) body110 (Nat.le_of_ble_eq_true rfl) ok110 ?_
  simp (config := { maxSteps := 1000000 }) (disch := omega) only [push_cast, ↓reduceIte, Nat.reduceEqDiff, Nat.reduceAdd, Nat.reduceLT, Nat.reduceLeDiff, Nat.reduceBEq, Nat.reduceMul, Nat.reduceSub, Int.reduceToNat, Int.reduceEq, Int.reduceLT, Int.reduceLE, Int.reduceNeg, Int.reduceAdd, Int.reduceSub, Int.reduceMul, Try.f110, kr110, ty3, ty4, ty9, ty28, ty30, ty85, ty87, ty89, ty91, ty93, tb4, SLt, USt, he]
end

def opsOf : Code → Array Oper
  | .region _ o _ => o
  | _ => #[]
noncomputable abbrev hBody : Code := codeOf Try.f88
noncomputable abbrev hP0 : Code := sA hBody
noncomputable abbrev hB1 : Code := sB hBody
noncomputable abbrev hR : Code := sA hB1
noncomputable abbrev hRest : Code := sB hB1
noncomputable abbrev hOps : Array Oper := opsOf hR
theorem hBody_eq : hBody = .seq hP0 (.seq hR hRest) := by kernel_rfl
theorem hR_eq : hR = .region 1 hOps true := by kernel_rfl
theorem hOps_size : hOps.size = 16 := by kernel_rfl
theorem hOps_list : hOps.toList = [opAt 0 hR, opAt 1 hR, opAt 2 hR, opAt 3 hR, opAt 4 hR, opAt 5 hR, opAt 6 hR, opAt 7 hR, opAt 8 hR, opAt 9 hR, opAt 10 hR, opAt 11 hR, opAt 12 hR, opAt 13 hR, opAt 14 hR, opAt 15 hR] := by kernel_rfl
theorem hNeed : ([(1, 0), (3, 1), (3, 2), (4, 3), (5, 4), (7, 6), (9, 7), (9, 8), (10, 9), (11, 10), (14, 12), (14, 5), (15, 13), (15, 11)].all fun (ij : Nat × Nat) => (opAt ij.1 hR).after.toList.any fun e => Region.binds .any e && e.on == ij.2) = true := by kernel_rfl
theorem hDown : (hOps.toList.zipIdx.all fun (o, i) => o.after.toList.all fun e => !Region.binds .any e || decide (e.on < i)) = true := by kernel_rfl
theorem hGuard : (hOps.toList.all fun o => o.guard.isNone && (match o.dst with | some d => decide (d < Try.f88.ntmps) | none => true)) = true := by kernel_rfl
section
variable (c1 c2 c3 c4 : Option Nat) (t1 f1 z1 t2 f2 z2 : Int) (S0 : St)
def hV : Nat → T
  | 0 => .pt 0 1
  | 1 => .c (.s c2 1 (setC t1 f1 z1))
  | 2 => I 0
  | 3 => .rp true (setC t1 f1 z1) 0
  | 4 => .rp true (setC t1 f1 z1) 0
  | 5 => .agg [I t1, I 0, O1]
  | 6 => .pt 1 1
  | 7 => .c (.s c4 1 (setC t2 f2 z2))
  | 8 => I 0
  | 9 => .rp true (setC t2 f2 z2) 0
  | 10 => .rp true (setC t2 f2 z2) 0
  | _ => .agg [I t2, I 0, O1]
abbrev z30 : List T := [I 0, I 0, .c (.s (some 0) 0 [])]
structure HR0 : Prop where
  g2 : get S0.t 2 = I 0
  g3 : get S0.t 3 = I 0
  g4 : get S0.t 4 = .pt 0 0
  g5 : get S0.t 5 = .pt 1 0
  o0 : obj S0.o 0 = some (.box [.c (.s c1 1 [CI 4]), .c (.s c2 1 (setC t1 f1 z1))])
  o1 : obj S0.o 1 = some (.box [.c (.s c3 1 [CI 4]), .c (.s c4 1 (setC t2 f2 z2))])
  n : S0.n = 2
structure HR (L : Nat → Bool) (p q : Nat) (S : St) : Prop where
  old : ∀ t, t < 9 ∨ (11 ≤ t ∧ t < 13) ∨ 25 ≤ t → get S.t t = get S0.t t
  v : ∀ i, i < 12 → L i = true → get S.t (13 + i) = hV c2 c4 t1 f1 z1 t2 f2 z2 i
  a1 : L 12 = true → get S.t 9 = .pt p 0 ∧ 2 ≤ p ∧ p < S.n
  a2 : L 12 = true → obj S.o p = some (.box (if L 14 then [I t1, I 0, O1] else z30))
  b1 : L 13 = true → get S.t 10 = .pt q 0 ∧ 2 ≤ q ∧ q < S.n
  b2 : L 13 = true → obj S.o q = some (.box (if L 15 then [I t2, I 0, O1] else z30))
  ne : L 12 = true → L 13 = true → p ≠ q
  n : S.n = 2 + (if L 12 then 1 else 0) + (if L 13 then 1 else 0)
  oo : ∀ o, (L 12 = true → o ≠ p) → (L 13 = true → o ≠ q) → obj S.o o = obj S0.o o
variable {c1 c2 c3 c4 t1 f1 z1 t2 f2 z2 S0}
/-- A value is put. -/
theorem HR.put {L : Nat → Bool} {p q : Nat} {S : St} (h : (HR c2 c4 t1 f1 z1 t2 f2 z2 S0) L p q S) (i : Nat) (hi : i < 12) : (HR c2 c4 t1 f1 z1 t2 f2 z2 S0) (fun j => j == i || L j) p q ⟨(13 + i, (hV c2 c4 t1 f1 z1 t2 f2 z2) i) :: S.t, S.o, S.n⟩ := by
  have hg : ∀ t, t ≠ 13 + i → get ((13 + i, (hV c2 c4 t1 f1 z1 t2 f2 z2) i) :: S.t) t = get S.t t := fun t ht => by simp [get, Ne.symm ht]
  have hs : get ((13 + i, (hV c2 c4 t1 f1 z1 t2 f2 z2) i) :: S.t) (13 + i) = (hV c2 c4 t1 f1 z1 t2 f2 z2) i := by simp [get]
  have e : ∀ k, 12 ≤ k → ((k == i || L k) : Bool) = L k := fun k hk => by rw [show (k == i) = false from by simpa using (by omega : k ≠ i)]; rfl
  refine ⟨fun t ht => (hg t (by omega)).trans (h.old t ht), fun j hj hL => ?_, fun hL => ?_, fun hL => ?_, fun hL => ?_, fun hL => ?_, fun hL hL' => ?_, ?_, fun o h1 h2 => ?_⟩
  · by_cases hji : j = i
    · subst hji; exact hs
    · refine (hg (13 + j) (by omega)).trans (h.v j hj ?_)
      have : (j == i) = false := by simpa using hji
      simpa [this] using hL
  · rw [e 12 (by omega)] at hL
    have := h.a1 hL
    exact ⟨(hg 9 (by omega)).trans this.1, this.2⟩
  · simp only [e 12 (by omega), e 14 (by omega)] at hL ⊢
    exact h.a2 hL
  · rw [e 13 (by omega)] at hL
    have := h.b1 hL
    exact ⟨(hg 10 (by omega)).trans this.1, this.2⟩
  · simp only [e 13 (by omega), e 15 (by omega)] at hL ⊢
    exact h.b2 hL
  · rw [e 12 (by omega)] at hL
    rw [e 13 (by omega)] at hL'
    exact h.ne hL hL'
  · simp only [e 12 (by omega), e 13 (by omega)]
    exact h.n
  · simp only [e 12 (by omega)] at h1
    simp only [e 13 (by omega)] at h2
    exact h.oo o h1 h2
/-- The first box is made. -/
theorem HR.allocA {L : Nat → Bool} {p q : Nat} {S : St} (h : (HR c2 c4 t1 f1 z1 t2 f2 z2 S0) L p q S) (h12 : L 12 = false) (h14 : L 14 = false) : (HR c2 c4 t1 f1 z1 t2 f2 z2 S0) (fun j => j == 12 || L j) S.n q ⟨(9, .pt S.n 0) :: S.t, (S.n, .box z30) :: S.o, S.n + 1⟩ := by
  have hg : ∀ t, t ≠ 9 → get ((9, T.pt S.n 0) :: S.t) t = get S.t t := fun t ht => by simp [get, Ne.symm ht]
  have hn := h.n
  have ho : ∀ o, obj ((S.n, Ob.box z30) :: S.o) o = if o = S.n then some (.box z30) else obj S.o o := fun o => by
    by_cases e : o = S.n
    · subst e; simp [obj]
    · simp [obj, e, Ne.symm e]
  refine ⟨fun t ht => (hg t (by omega)).trans (h.old t ht), fun j hj hL => ?_, fun hL => ⟨by simp [get], ?_, by show S.n < S.n + 1; omega⟩, fun hL => ?_, fun hL => ?_, fun hL => ?_, fun hL hL' => ?_, ?_, fun o h1 h2 => ?_⟩
  · refine (hg (13 + j) (by omega)).trans (h.v j hj ?_)
    have : (j == 12) = false := by simpa using (by omega : j ≠ 12)
    simpa [this] using hL
  · rw [hn]; split <;> split <;> omega
  · show obj (_ :: _) _ = _
    rw [ho, if_pos rfl]
    simp [h14]
  · have hL : L 13 = true := by simpa using hL
    have := h.b1 hL
    exact ⟨(hg 10 (by omega)).trans this.1, this.2.1, by show q < S.n + 1; omega⟩
  · have hL : L 13 = true := by simpa using hL
    have := (h.b1 hL).2
    show obj (_ :: _) _ = _
    rw [ho, if_neg (by omega)]
    simpa using h.b2 hL
  · have hL' : L 13 = true := by simpa using hL'
    have := (h.b1 hL').2
    omega
  · show S.n + 1 = _
    rw [hn]
    simp [h12]
    omega
  · show obj (_ :: _) _ = _
    rw [ho, if_neg (h1 (by simp))]
    refine h.oo o (fun k => by rw [h12] at k; simp at k) fun k => h2 (by simpa using k)
theorem HR.allocB {L : Nat → Bool} {p q : Nat} {S : St} (h : (HR c2 c4 t1 f1 z1 t2 f2 z2 S0) L p q S) (h13 : L 13 = false) (h15 : L 15 = false) : (HR c2 c4 t1 f1 z1 t2 f2 z2 S0) (fun j => j == 13 || L j) p S.n ⟨(10, .pt S.n 0) :: S.t, (S.n, .box z30) :: S.o, S.n + 1⟩ := by
  have hg : ∀ t, t ≠ 10 → get ((10, T.pt S.n 0) :: S.t) t = get S.t t := fun t ht => by simp [get, Ne.symm ht]
  have hn := h.n
  have ho : ∀ o, obj ((S.n, Ob.box z30) :: S.o) o = if o = S.n then some (.box z30) else obj S.o o := fun o => by
    by_cases e : o = S.n
    · subst e; simp [obj]
    · simp [obj, e, Ne.symm e]
  refine ⟨fun t ht => (hg t (by omega)).trans (h.old t ht), fun j hj hL => ?_, fun hL => ?_, fun hL => ?_, fun hL => ⟨by simp [get], ?_, by show S.n < S.n + 1; omega⟩, fun hL => ?_, fun hL hL' => ?_, ?_, fun o h1 h2 => ?_⟩
  · refine (hg (13 + j) (by omega)).trans (h.v j hj ?_)
    have : (j == 13) = false := by simpa using (by omega : j ≠ 13)
    simpa [this] using hL
  · have hL : L 12 = true := by simpa using hL
    have := h.a1 hL
    exact ⟨(hg 9 (by omega)).trans this.1, this.2.1, by show p < S.n + 1; omega⟩
  · have hL : L 12 = true := by simpa using hL
    have := (h.a1 hL).2
    show obj (_ :: _) _ = _
    rw [ho, if_neg (by omega)]
    simpa using h.a2 hL
  · rw [hn]; split <;> split <;> omega
  · show obj (_ :: _) _ = _
    rw [ho, if_pos rfl]
    simp [h15]
  · have hL : L 12 = true := by simpa using hL
    have := (h.a1 hL).2
    omega
  · show S.n + 1 = _
    rw [hn]
    simp [h13]
  · show obj (_ :: _) _ = _
    rw [ho, if_neg (h2 (by simp))]
    refine h.oo o (fun k => h1 (by simpa using k)) fun k => by rw [h13] at k; simp at k
/-- The stores. -/
theorem HR.putA {L : Nat → Bool} {p q : Nat} {S : St} (h : (HR c2 c4 t1 f1 z1 t2 f2 z2 S0) L p q S) (h12 : L 12 = true) : (HR c2 c4 t1 f1 z1 t2 f2 z2 S0) (fun j => j == 14 || L j) p q ⟨S.t, setO p (.box [I t1, I 0, O1]) S.o, S.n⟩ := by
  have hp := h.a2 h12
  have ho : ∀ o, obj (setO p (Ob.box [I t1, I 0, O1]) S.o) o = if o = p then some (.box [I t1, I 0, O1]) else obj S.o o := fun o => by
    rw [obj_setO]
    by_cases e : o = p
    · subst e; rw [if_pos rfl, if_pos rfl, hp]; rfl
    · rw [if_neg e, if_neg e]
  refine ⟨h.old, fun j hj hL => h.v j hj ?_, fun hL => h.a1 h12, fun hL => ?_, fun hL => h.b1 (by simpa using hL), fun hL => ?_, fun hL hL' => h.ne h12 (by simpa using hL'), by simpa using h.n, fun o h1 h2 => ?_⟩
  · have : (j == 14) = false := by simpa using (by omega : j ≠ 14)
    simpa [this] using hL
  · show obj (setO _ _ _) _ = _
    rw [ho, if_pos rfl]
    simp
  · have hL : L 13 = true := by simpa using hL
    show obj (setO _ _ _) _ = _
    rw [ho, if_neg (Ne.symm (h.ne h12 hL))]
    simpa using h.b2 hL
  · show obj (setO _ _ _) _ = _
    rw [ho, if_neg (h1 (by simpa using h12))]
    exact h.oo o (fun _ => h1 (by simpa using h12)) fun k => h2 (by simpa using k)
theorem HR.putB {L : Nat → Bool} {p q : Nat} {S : St} (h : (HR c2 c4 t1 f1 z1 t2 f2 z2 S0) L p q S) (h13 : L 13 = true) : (HR c2 c4 t1 f1 z1 t2 f2 z2 S0) (fun j => j == 15 || L j) p q ⟨S.t, setO q (.box [I t2, I 0, O1]) S.o, S.n⟩ := by
  have hp := h.b2 h13
  have ho : ∀ o, obj (setO q (Ob.box [I t2, I 0, O1]) S.o) o = if o = q then some (.box [I t2, I 0, O1]) else obj S.o o := fun o => by
    rw [obj_setO]
    by_cases e : o = q
    · subst e; rw [if_pos rfl, if_pos rfl, hp]; rfl
    · rw [if_neg e, if_neg e]
  refine ⟨h.old, fun j hj hL => h.v j hj ?_, fun hL => h.a1 (by simpa using hL), fun hL => ?_, fun hL => h.b1 h13, fun hL => ?_, fun hL hL' => h.ne (by simpa using hL) h13, by simpa using h.n, fun o h1 h2 => ?_⟩
  · have : (j == 15) = false := by simpa using (by omega : j ≠ 15)
    simpa [this] using hL
  · have hL : L 12 = true := by simpa using hL
    show obj (setO _ _ _) _ = _
    rw [ho, if_neg (h.ne hL h13)]
    simpa using h.a2 hL
  · show obj (setO _ _ _) _ = _
    rw [ho, if_pos rfl]
    simp
  · show obj (setO _ _ _) _ = _
    rw [ho, if_neg (h2 (by simpa using h13))]
    exact h.oo o (fun k => h1 (by simpa using k)) fun _ => h2 (by simpa using h13)
/-! The operations, one by one. -/
variable {cl : FuncId → List T → Option R} {S : St}
theorem op_fa (o i d p : Nat) (h : get S.t p = .pt o 0) (hi : (i = 0 ∧ d = 13 ∧ p = 4) ∨ (i = 6 ∧ d = 19 ∧ p = 5)) : opA E0 cl true S (opAt i hR) = some ⟨(d, .pt o 1) :: S.t, S.o, S.n⟩ := by
  rcases hi with ⟨rfl, rfl, rfl⟩ | ⟨rfl, rfl, rfl⟩
  all_goals simp (config := { maxSteps := 1000000 }) (disch := omega) only [push_cast, ↓reduceIte, Nat.reduceEqDiff, Nat.reduceAdd, Nat.reduceLT, Nat.reduceLeDiff, Nat.reduceBEq, Nat.reduceMul, Nat.reduceSub, Int.reduceToNat, Int.reduceEq, Int.reduceLT, Int.reduceLE, Int.reduceNeg, Int.reduceAdd, Int.reduceSub, Int.reduceMul, Try.f88, kr88, ty3, ty9, ty28, ty30, ty85, ty87, ty89, ty91, ty93, opA, opAt, hR, hB1, hBody, sA, sB, h, St.add]
  all_goals rfl
theorem op_ld (o i d p : Nat) (x y : C) (h : get S.t p = .pt o 1) (ho : obj S.o o = some (.box [.c x, .c y])) (hi : (i = 1 ∧ d = 14 ∧ p = 13) ∨ (i = 7 ∧ d = 20 ∧ p = 19)) : opA E0 cl true S (opAt i hR) = some ⟨(d, .c y) :: S.t, S.o, S.n⟩ := by
  rcases hi with ⟨rfl, rfl, rfl⟩ | ⟨rfl, rfl, rfl⟩
  all_goals simp (config := { maxSteps := 1000000 }) (disch := omega) only [push_cast, ↓reduceIte, Nat.reduceEqDiff, Nat.reduceAdd, Nat.reduceLT, Nat.reduceLeDiff, Nat.reduceBEq, Nat.reduceMul, Nat.reduceSub, Int.reduceToNat, Int.reduceEq, Int.reduceLT, Int.reduceLE, Int.reduceNeg, Int.reduceAdd, Int.reduceSub, Int.reduceMul, Try.f88, kr88, ty3, ty9, ty28, ty30, ty85, ty87, ty89, ty91, ty93, opA, opAt, hR, hB1, hBody, sA, sB, h, ho, St.add]
  all_goals rfl
theorem op_mv (i d p : Nat) (x : Int) (h : get S.t p = I x) (hi : (i = 2 ∧ d = 15 ∧ p = 2) ∨ (i = 8 ∧ d = 21 ∧ p = 3)) : opA E0 cl true S (opAt i hR) = some ⟨(d, I x) :: S.t, S.o, S.n⟩ := by
  rcases hi with ⟨rfl, rfl, rfl⟩ | ⟨rfl, rfl, rfl⟩
  all_goals simp (config := { maxSteps := 1000000 }) (disch := omega) only [push_cast, ↓reduceIte, Nat.reduceEqDiff, Nat.reduceAdd, Nat.reduceLT, Nat.reduceLeDiff, Nat.reduceBEq, Nat.reduceMul, Nat.reduceSub, Int.reduceToNat, Int.reduceEq, Int.reduceLT, Int.reduceLE, Int.reduceNeg, Int.reduceAdd, Int.reduceSub, Int.reduceMul, Try.f88, kr88, ty3, ty9, ty28, ty30, ty85, ty87, ty89, ty91, ty93, opA, opAt, hR, hB1, hBody, sA, sB, h, St.add]
  all_goals rfl
theorem op_ix (i d p q : Nat) (c : Option Nat) (l : List C) (h : get S.t p = .c (.s c 1 l)) (h2 : get S.t q = I 0) (hi : (i = 3 ∧ d = 16 ∧ p = 14 ∧ q = 15) ∨ (i = 9 ∧ d = 22 ∧ p = 20 ∧ q = 21)) : opA E0 cl true S (opAt i hR) = some ⟨(d, .rp true l 0) :: S.t, S.o, S.n⟩ := by
  rcases hi with ⟨rfl, rfl, rfl, rfl⟩ | ⟨rfl, rfl, rfl, rfl⟩
  all_goals simp (config := { maxSteps := 1000000 }) (disch := omega) only [push_cast, ↓reduceIte, Nat.reduceEqDiff, Nat.reduceAdd, Nat.reduceLT, Nat.reduceLeDiff, Nat.reduceBEq, Nat.reduceMul, Nat.reduceSub, Int.reduceToNat, Int.reduceEq, Int.reduceLT, Int.reduceLE, Int.reduceNeg, Int.reduceAdd, Int.reduceSub, Int.reduceMul, Try.f88, kr88, ty3, ty9, ty28, ty30, ty85, ty87, ty89, ty91, ty93, opA, opAt, hR, hB1, hBody, sA, sB, h, h2, St.add]
  all_goals rfl
theorem op_fr (i d p : Nat) (l : List C) (h : get S.t p = .rp true l 0) (hi : (i = 4 ∧ d = 17 ∧ p = 16) ∨ (i = 10 ∧ d = 23 ∧ p = 22)) : opA E0 cl true S (opAt i hR) = some ⟨(d, .rp true l 0) :: S.t, S.o, S.n⟩ := by
  rcases hi with ⟨rfl, rfl, rfl⟩ | ⟨rfl, rfl, rfl⟩
  all_goals simp (config := { maxSteps := 1000000 }) (disch := omega) only [push_cast, ↓reduceIte, Nat.reduceEqDiff, Nat.reduceAdd, Nat.reduceLT, Nat.reduceLeDiff, Nat.reduceBEq, Nat.reduceMul, Nat.reduceSub, Int.reduceToNat, Int.reduceEq, Int.reduceLT, Int.reduceLE, Int.reduceNeg, Int.reduceAdd, Int.reduceSub, Int.reduceMul, Try.f88, kr88, ty3, ty9, ty28, ty30, ty85, ty87, ty89, ty91, ty93, opA, opAt, hR, hB1, hBody, sA, sB, h, St.add]
  all_goals rfl
theorem op_lr (i d p : Nat) (t f z : Int) (h : get S.t p = .rp true (setC t f z) 0) (hi : (i = 5 ∧ d = 18 ∧ p = 17) ∨ (i = 11 ∧ d = 24 ∧ p = 23)) : opA E0 cl true S (opAt i hR) = some ⟨(d, .agg [I t, I 0, O1]) :: S.t, S.o, S.n⟩ := by
  rcases hi with ⟨rfl, rfl, rfl⟩ | ⟨rfl, rfl, rfl⟩
  all_goals simp (config := { maxSteps := 1000000 }) (disch := omega) only [push_cast, ↓reduceIte, Nat.reduceEqDiff, Nat.reduceAdd, Nat.reduceLT, Nat.reduceLeDiff, Nat.reduceBEq, Nat.reduceMul, Nat.reduceSub, Int.reduceToNat, Int.reduceEq, Int.reduceLT, Int.reduceLE, Int.reduceNeg, Int.reduceAdd, Int.reduceSub, Int.reduceMul, Try.f88, kr88, ty3, ty9, ty28, ty30, ty85, ty87, ty89, ty91, ty93, opA, opAt, hR, hB1, hBody, sA, sB, h, St.add]
  all_goals rfl
theorem op_al (i d : Nat) (hi : (i = 12 ∧ d = 9) ∨ (i = 13 ∧ d = 10)) : opA E0 cl true S (opAt i hR) = some ⟨(d, .pt S.n 0) :: S.t, (S.n, .box z30) :: S.o, S.n + 1⟩ := by
  rcases hi with ⟨rfl, rfl⟩ | ⟨rfl, rfl⟩
  all_goals simp (config := { maxSteps := 1000000 }) (disch := omega) only [push_cast, ↓reduceIte, Nat.reduceEqDiff, Nat.reduceAdd, Nat.reduceLT, Nat.reduceLeDiff, Nat.reduceBEq, Nat.reduceMul, Nat.reduceSub, Int.reduceToNat, Int.reduceEq, Int.reduceLT, Int.reduceLE, Int.reduceNeg, Int.reduceAdd, Int.reduceSub, Int.reduceMul, Try.f88, kr88, ty3, ty9, ty28, ty30, ty85, ty87, ty89, ty91, ty93, opA, opAt, hR, hB1, hBody, sA, sB, St.add]
  all_goals rfl
theorem op_st (o i p q : Nat) (x y : Int) (w1 w2 w3 : T) (h : get S.t p = .pt o 0) (h2 : get S.t q = .agg [I x, I y, O1]) (ho : obj S.o o = some (.box [w1, w2, w3])) (hi : (i = 14 ∧ p = 9 ∧ q = 18) ∨ (i = 15 ∧ p = 10 ∧ q = 24)) : opA E0 cl true S (opAt i hR) = some ⟨S.t, setO o (.box [I x, I y, O1]) S.o, S.n⟩ := by
  rcases hi with ⟨rfl, rfl, rfl⟩ | ⟨rfl, rfl, rfl⟩
  all_goals simp (config := { maxSteps := 1000000 }) (disch := omega) only [push_cast, ↓reduceIte, Nat.reduceEqDiff, Nat.reduceAdd, Nat.reduceLT, Nat.reduceLeDiff, Nat.reduceBEq, Nat.reduceMul, Nat.reduceSub, Int.reduceToNat, Int.reduceEq, Int.reduceLT, Int.reduceLE, Int.reduceNeg, Int.reduceAdd, Int.reduceSub, Int.reduceMul, Try.f88, kr88, ty3, ty9, ty28, ty30, ty85, ty87, ty89, ty91, ty93, opA, opAt, hR, hB1, hBody, sA, sB, h, h2, ho, St.add, storeT]
  all_goals rfl
theorem need {L : Nat → Bool} {i j : Nat} (hm : (i, j) ∈ [(1, 0), (3, 1), (3, 2), (4, 3), (5, 4), (7, 6), (9, 7), (9, 8), (10, 9), (11, 10), (14, 12), (14, 5), (15, 13), (15, 11)]) (h : ∀ e ∈ (opAt i hR).after.toList, Region.binds .any e = true → L e.on = true) : L j = true := by
  have := List.all_eq_true.1 hNeed (i, j) hm
  obtain ⟨e, he, hb⟩ := List.any_eq_true.1 this
  simp only [Bool.and_eq_true, beq_iff_eq] at hb
  have := h e he hb.1
  rwa [hb.2] at this
/-- What one operation makes of the invariant. -/
theorem hr_step (h0 : HR0 c1 c2 c3 c4 t1 f1 z1 t2 f2 z2 S0) {L : Nat → Bool} {i : Nat} {o : Oper} (hr : ∃ p q, (HR c2 c4 t1 f1 z1 t2 f2 z2 S0) L p q S) (ho : hOps[i]? = some o) (hL : L i = false) (he : ∀ e ∈ o.after.toList, Region.binds .any e = true → L e.on = true) (h14 : L 14 = true → L 12 = true) (h15 : L 15 = true → L 13 = true) :
    ∃ S1, opA E0 cl true S o = some S1 ∧ ∃ p q, (HR c2 c4 t1 f1 z1 t2 f2 z2 S0) (fun j => j == i || L j) p q S1 := by
  obtain ⟨p, q, h⟩ := hr
  have hl : hOps.toList[i]? = some o := by simpa using ho
  rw [hOps_list] at hl
  have hi : i < 16 := by
    have := (List.getElem?_eq_some_iff.1 hl).1
    simpa using this
  have g2 := (h.old 2 (by omega)).trans h0.g2
  have g3 := (h.old 3 (by omega)).trans h0.g3
  have g4 := (h.old 4 (by omega)).trans h0.g4
  have g5 := (h.old 5 (by omega)).trans h0.g5
  have o0 : obj S.o 0 = _ := (h.oo 0 (fun k => by have := (h.a1 k).2.1; omega) fun k => by have := (h.b1 k).2.1; omega).trans h0.o0
  have o1 : obj S.o 1 = _ := (h.oo 1 (fun k => by have := (h.a1 k).2.1; omega) fun k => by have := (h.b1 k).2.1; omega).trans h0.o1
  have hc : i = 0 ∨ i = 1 ∨ i = 2 ∨ i = 3 ∨ i = 4 ∨ i = 5 ∨ i = 6 ∨ i = 7 ∨ i = 8 ∨ i = 9 ∨ i = 10 ∨ i = 11 ∨ i = 12 ∨ i = 13 ∨ i = 14 ∨ i = 15 := by omega
  rcases hc with rfl | rfl | rfl | rfl | rfl | rfl | rfl | rfl | rfl | rfl | rfl | rfl | rfl | rfl | rfl | rfl
  all_goals obtain rfl := Option.some.inj hl
  · exact ⟨_, op_fa 0 0 13 4 g4 (by simp), p, q, h.put 0 (by omega)⟩
  · exact ⟨_, op_ld 0 1 14 13 _ _ (h.v 0 (by omega) (need (by simp) he)) o0 (by simp), p, q, h.put 1 (by omega)⟩
  · exact ⟨_, op_mv 2 15 2 0 g2 (by simp), p, q, h.put 2 (by omega)⟩
  · exact ⟨_, op_ix 3 16 14 15 c2 _ (h.v 1 (by omega) (need (by simp) he)) (h.v 2 (by omega) (need (by simp) he)) (by simp), p, q, h.put 3 (by omega)⟩
  · exact ⟨_, op_fr 4 17 16 _ (h.v 3 (by omega) (need (by simp) he)) (by simp), p, q, h.put 4 (by omega)⟩
  · exact ⟨_, op_lr 5 18 17 t1 f1 z1 (h.v 4 (by omega) (need (by simp) he)) (by simp), p, q, h.put 5 (by omega)⟩
  · exact ⟨_, op_fa 1 6 19 5 g5 (by simp), p, q, h.put 6 (by omega)⟩
  · exact ⟨_, op_ld 1 7 20 19 _ _ (h.v 6 (by omega) (need (by simp) he)) o1 (by simp), p, q, h.put 7 (by omega)⟩
  · exact ⟨_, op_mv 8 21 3 0 g3 (by simp), p, q, h.put 8 (by omega)⟩
  · exact ⟨_, op_ix 9 22 20 21 c4 _ (h.v 7 (by omega) (need (by simp) he)) (h.v 8 (by omega) (need (by simp) he)) (by simp), p, q, h.put 9 (by omega)⟩
  · exact ⟨_, op_fr 10 23 22 _ (h.v 9 (by omega) (need (by simp) he)) (by simp), p, q, h.put 10 (by omega)⟩
  · exact ⟨_, op_lr 11 24 23 t2 f2 z2 (h.v 10 (by omega) (need (by simp) he)) (by simp), p, q, h.put 11 (by omega)⟩
  · exact ⟨_, op_al 12 9 (by simp), S.n, q, h.allocA hL (by cases k : L 14 with | false => rfl | true => rw [h14 k] at hL; simp at hL)⟩
  · exact ⟨_, op_al 13 10 (by simp), p, S.n, h.allocB hL (by cases k : L 15 with | false => rfl | true => rw [h15 k] at hL; simp at hL)⟩
  · have h12 : L 12 = true := need (i := 14) (by simp) he
    have ha := h.a2 h12
    rw [hL] at ha
    exact ⟨_, op_st p 14 9 18 t1 0 _ _ _ (h.a1 h12).1 (h.v 5 (by omega) (need (i := 14) (by simp) he)) ha (by simp), p, q, h.putA h12⟩
  · have h13 : L 13 = true := need (i := 15) (by simp) he
    have hb := h.b2 h13
    rw [hL] at hb
    exact ⟨_, op_st q 15 10 24 t2 0 _ _ _ (h.b1 h13).1 (h.v 11 (by omega) (need (i := 15) (by simp) he)) hb (by simp), p, q, h.putB h13⟩
theorem walk_hR {w0 : World} {F0 : Nat → Prop} {l : List Code} {Qw : Ex → St → Prop} (hcl : CallOK E0.P cl) (h0 : HR0 c1 c2 c3 c4 t1 f1 z1 t2 f2 z2 S0)
    (hj : ∀ t, (9 ≤ t ∧ t < 11) ∨ (13 ≤ t ∧ t < 25) → get S0.t t = .junk)
    (hA : WalkL E0.P Try.f88.ntmps w0 F0 l ⟨(9, .pt 2 0) :: (10, .pt 3 0) :: S0.t, (3, .box [I t2, I 0, O1]) :: (2, .box [I t1, I 0, O1]) :: S0.o, 4⟩ Qw)
    (hB : WalkL E0.P Try.f88.ntmps w0 F0 l ⟨(9, .pt 3 0) :: (10, .pt 2 0) :: S0.t, (3, .box [I t1, I 0, O1]) :: (2, .box [I t2, I 0, O1]) :: S0.o, 4⟩ Qw) :
    WalkL E0.P Try.f88.ntmps w0 F0 (hR :: l) S0 Qw := by
  rw [hR_eq]
  refine walk_free mixed hcl (fun L S => (∃ p q, (HR c2 c4 t1 f1 z1 t2 f2 z2 S0) L p q S) ∧ (L 14 = true → L 12 = true) ∧ (L 15 = true → L 13 = true)) hDown hGuard ⟨⟨0, 0, fun _ _ => rfl, fun _ _ h => by simp at h, fun h => by simp at h, fun h => by simp at h, fun h => by simp at h, fun h => by simp at h, fun h => by simp at h, by simpa using h0.n, fun _ _ _ => rfl⟩, fun h => by simp at h, fun h => by simp at h⟩ (fun L S i o hr ho hL he => ?_) fun L S hr hall => ?_
  · obtain ⟨S1, h1, h2⟩ := hr_step h0 hr.1 ho hL he hr.2.1 hr.2.2
    refine ⟨S1, h1, h2, fun k => ?_, fun k => ?_⟩
    · by_cases e : i = 14
      · subst e
        have hl : hOps.toList[14]? = some o := by simpa using ho
        rw [hOps_list] at hl
        obtain rfl := Option.some.inj hl
        simp only [need (i := 14) (j := 12) (by simp) he, Bool.or_true]
      · have : (14 == i) = false := by simpa using Ne.symm e
        simp only [this, Bool.false_or] at k
        simp only [hr.2.1 k, Bool.or_true]
    · by_cases e : i = 15
      · subst e
        have hl : hOps.toList[15]? = some o := by simpa using ho
        rw [hOps_list] at hl
        obtain rfl := Option.some.inj hl
        simp only [need (i := 15) (j := 13) (by simp) he, Bool.or_true]
      · have : (15 == i) = false := by simpa using Ne.symm e
        simp only [this, Bool.false_or] at k
        simp only [hr.2.2 k, Bool.or_true]
  · obtain ⟨⟨p, q, h⟩, _⟩ := hr
    rw [hOps_size] at hall
    have a1 := h.a1 (hall 12 (by omega))
    have a2 := h.a2 (hall 12 (by omega))
    have b1 := h.b1 (hall 13 (by omega))
    have b2 := h.b2 (hall 13 (by omega))
    have hne := h.ne (hall 12 (by omega)) (hall 13 (by omega))
    have hn := h.n
    rw [hall 14 (by omega), if_pos rfl] at a2
    rw [hall 15 (by omega), if_pos rfl] at b2
    rw [hall 12 (by omega), hall 13 (by omega)] at hn
    simp only [if_true] at hn
    have old : ∀ t, t ≠ 9 → t ≠ 10 → get S0.t t = get S.t t ∨ get S0.t t = .junk := fun t h1 h2 => by
      by_cases e : (9 ≤ t ∧ t < 11) ∨ (13 ≤ t ∧ t < 25)
      · exact .inr (hj t e)
      · exact .inl (h.old t (by omega)).symm
    have gg : ∀ (x y : T) t, get ((9, x) :: (10, y) :: S0.t) t = if t = 9 then x else if t = 10 then y else get S0.t t := fun x y t => by
      by_cases e : t = 9
      · subst e; simp [get]
      · by_cases e2 : t = 10
        · subst e2; simp [get]
        · simp [get, e, e2, Ne.symm e, Ne.symm e2]
    have oo : ∀ (x y : Ob) t, obj ((3, x) :: (2, y) :: S0.o) t = if t = 3 then some x else if t = 2 then some y else obj S0.o t := fun x y t => by
      by_cases e : t = 3
      · subst e; simp [obj]
      · by_cases e2 : t = 2
        · subst e2; simp [obj]
        · simp [obj, e, e2, Ne.symm e, Ne.symm e2]
    have hpq : (p = 2 ∧ q = 3) ∨ (p = 3 ∧ q = 2) := by omega
    rcases hpq with ⟨rfl, rfl⟩ | ⟨rfl, rfl⟩
    · refine ⟨_, fun t => ?_, ?_, fun o => ?_, hA⟩
      · rw [gg]
        by_cases e : t = 9
        · subst e; rw [if_pos rfl]; exact .inl a1.1.symm
        · by_cases e2 : t = 10
          · subst e2; rw [if_neg e, if_pos rfl]; exact .inl b1.1.symm
          · rw [if_neg e, if_neg e2]; exact old t e e2
      · show 4 = S.n; omega
      · rw [oo]
        by_cases e : o = 3
        · subst e; rw [if_pos rfl]; exact b2.symm
        · by_cases e2 : o = 2
          · subst e2; rw [if_neg e, if_pos rfl]; exact a2.symm
          · rw [if_neg e, if_neg e2]; exact (h.oo o (fun _ => e2) fun _ => e).symm
    · refine ⟨_, fun t => ?_, ?_, fun o => ?_, hB⟩
      · rw [gg]
        by_cases e : t = 9
        · subst e; rw [if_pos rfl]; exact .inl a1.1.symm
        · by_cases e2 : t = 10
          · subst e2; rw [if_neg e, if_pos rfl]; exact .inl b1.1.symm
          · rw [if_neg e, if_neg e2]; exact old t e e2
      · show 4 = S.n; omega
      · rw [oo]
        by_cases e : o = 3
        · subst e; rw [if_pos rfl]; exact a2.symm
        · by_cases e2 : o = 2
          · subst e2; rw [if_neg e, if_pos rfl]; exact b2.symm
          · rw [if_neg e, if_neg e2]; exact (h.oo o (fun _ => e) fun _ => e2).symm
end

theorem hLoops (id : Nat) : findLoop id hBody = none := by kernel_rfl
theorem hGood : ∀ c ∈ [hP0, hRest], (∀ b ∈ loopsOf c, b ∈ loopsOf hBody) ∧ okCode Try.f88.ntmps c = true := by
  have h : ∀ c ∈ [hP0, hRest], loopsOf c = [] ∧ okCode Try.f88.ntmps c = true := by
    intro c hc
    simp only [List.mem_cons, List.not_mem_nil, or_false] at hc
    rcases hc with rfl | rfl <;> exact ⟨by kernel_rfl, by kernel_rfl⟩
  exact fun c hc => ⟨fun b hb => by rw [(h c hc).1] at hb; simp at hb, (h c hc).2⟩
def hS (fl : Bool) : ByteArray := if fl then (ByteArray.mk #[102, 108, 111, 119]) else (ByteArray.mk #[])
theorem hind_R (c1 c2 c3 c4 : Option Nat) (z : Int) (fl : Bool) (hz : okR z [4] [1]) (he : ∀ c, CALL2 109 [.c (.s c 1 [CI 4]), .agg [I 0, I 0, O1], .agg [I 0, I z, O1]] = some (B fl, [])) :
    CallsR E0.P 88 [KT c1 c2 0 1 0, KT c3 c4 2 0 z, I 0, I 0] (.c (.v (.string (hS fl))), []) := by
  have hlp : ∀ w0 F0, LoopOK E0 Try.f88.ntmps w0 F0 hBody ((lim E0 pr2).loop 88) := fun w0 F0 id S e S' h b hb => by
    rw [hLoops id] at hb; simp at hb
  have hnd : nodupB ((loopsOf hBody).map firstId) = true := by kernel_rfl
  have g0 := hGood hP0 (by simp)
  have g1 := hGood hRest (by simp)
  have p1 := fun c1 c2 t f z => old2 (by decide) (k_part c1 c2 t f z)
  have l1 := fun c1 c2 => old2 (by decide) (k_Loads c1 c2 2 0 z hz)
  have l2 := fun c1 c2 => old2 (by decide) (k_Loads c1 c2 0 1 0 (by decide))
  have k1 := k_Contains2 108 [.rb [.c (.s c1 1 [CI 4]), .c (.s c2 1 (setC 0 1 0))] 0, .rb [.c (CI 0), .c (CI 0), .c (.s none 1 [CI 1])] 0] fl 0 z (k_h1 c1 c2 0 1 0 0 0 0 z fl (he c1)) (shut_rb2 _ _ _ _) false none
  have k2 := k_Contains2 110 [.rb [.c (.s c1 1 [CI 4]), .c (.s c2 1 (setC 0 1 0))] 0, .rb [.c (CI 2), .c (CI 0), .c (.s none 1 [CI 1])] 0] false 1 0 (k_h2 c1 c2 0 1 0 2 0 1 0 false (e_lo c1)) (shut_rb2 _ _ _ _) false none
  have e3 := e_so c1
  refine walk_fun (E := E0) fn88 (by kernel_rfl) (show Try.f88.body = some hBody by kernel_rfl) (Nat.le_of_ble_eq_true (by kernel_rfl)) fun w F => ?_
  rw [show ([hBody] : List Code) = [Code.seq hP0 (.seq hR hRest)] from congrArg (fun c => [c]) hBody_eq]
  refine walk_assoc [] (walk_assoc [hP0] ?_)
  show WalkL E0.P Try.f88.ntmps w F [hP0, hR, hRest] _ _
  refine walk_te (e := .nor) mixed (lim_sound mixed pr2_ok) hlp hnd g0.1 g0.2 (S' := ?_) ?_ ?_
  rotate_left
  · simp (config := { maxSteps := 1000000 }) (disch := omega) only [push_cast, ↓reduceIte, Nat.reduceEqDiff, Nat.reduceAdd, Nat.reduceLT, Nat.reduceLeDiff, Nat.reduceBEq, Nat.reduceMul, Nat.reduceSub, Int.reduceToNat, Int.reduceEq, Int.reduceLT, Int.reduceLE, Int.reduceNeg, Int.reduceAdd, Int.reduceSub, Int.reduceMul, Try.f88, kr88, ty3, ty9, ty28, ty30, ty85, ty87, ty89, ty91, ty93, hP0, hBody, sA, sB, SLt, USt]
    rfl
  refine walk_hR (c1 := c1) (c2 := c2) (c3 := c3) (c4 := c4) (t1 := 0) (f1 := 1) (z1 := 0) (t2 := 2) (f2 := 0) (z2 := z) (lim_sound mixed pr2_ok) ⟨rfl, rfl, rfl, rfl, rfl, rfl, rfl⟩ (fun t h => ?_) ?_ ?_
  · simp only [get]
    repeat rw [if_neg (by omega)]
  all_goals cases fl
  all_goals refine walk_te (e := .ret) mixed (lim_sound mixed pr2_ok) hlp hnd g1.1 g1.2 (S' := ?_) ?_ ?_
  all_goals first | (simp (config := { maxSteps := 1000000 }) (disch := omega) only [push_cast, ↓reduceIte, Nat.reduceEqDiff, Nat.reduceAdd, Nat.reduceLT, Nat.reduceLeDiff, Nat.reduceBEq, Nat.reduceMul, Nat.reduceSub, Int.reduceToNat, Int.reduceEq, Int.reduceLT, Int.reduceLE, Int.reduceNeg, Int.reduceAdd, Int.reduceSub, Int.reduceMul, Try.f88, kr88, ty3, ty9, ty28, ty30, ty85, ty87, ty89, ty91, ty93, hRest, hB1, hBody, sA, sB, SLt, USt, p1, l1, l2, k1, k2, e3]; rfl; done) | skip
  all_goals refine ⟨.inr rfl, ?_⟩
  all_goals simp (config := { maxSteps := 1000000 }) (disch := omega) only [push_cast, ↓reduceIte, Nat.reduceEqDiff, Nat.reduceAdd, Nat.reduceLT, Nat.reduceLeDiff, Nat.reduceBEq, Nat.reduceMul, Nat.reduceSub, Int.reduceToNat, Int.reduceEq, Int.reduceLT, Int.reduceLE, Int.reduceNeg, Int.reduceAdd, Int.reduceSub, Int.reduceMul, Try.f88, kr88, ty3, ty9, ty28, ty30, ty85, ty87, ty89, ty91, ty93, retT, St.add]
  all_goals rfl
/-! The third layer. -/
def NEW3 : List Nat := [77, 47, 48, 16, 4]
def Sp3 (f : FuncId) (xs : List T) (r : R) : Prop :=
  (f = 26 ∧ ∃ (b : Bool) (cap : Option Nat) (l : List Int), (l.length : Int) * 8 ≤ 140737488351232 ∧ xs = [SL b cap l.length (ints l)] ∧ r = (B (decide (¬ l.Nodup)), [])) ∨
  (f = 88 ∧ ∃ (c1 c2 c3 c4 : Option Nat) (z : Int), (z = 0 ∨ z = 1) ∧ xs = [KT c1 c2 0 1 0, KT c3 c4 2 0 z, I 0, I 0] ∧ r = (.c (.v (.string (hS (decide (z = 1))))), []))
theorem Sp3_ok (f : FuncId) (xs : List T) (r : R) (h : Sp3 f xs r) : CallsR E0.P f xs r := by
  rcases h with ⟨rfl, b, cap, l, h1, rfl, rfl⟩ | ⟨rfl, c1, c2, c3, c4, z, hz, rfl, rfl⟩
  · exact Tw.twice_R b cap l h1
  · rcases hz with rfl | rfl
    · exact hind_R c1 c2 c3 c4 0 false (by decide) e_ac
    · exact hind_R c1 c2 c3 c4 1 true (by decide) e_ab
theorem Sp3_one {f : FuncId} {xs : List T} {r r' : R} (h : Sp3 f xs r) (h' : Sp3 f xs r') : r' = r := by
  rcases h with ⟨rfl, b, cap, l, h1, rfl, rfl⟩ | ⟨rfl, c1, c2, c3, c4, z, hz, rfl, rfl⟩
  · rcases h' with ⟨_, b', cap', l', _, e, rfl⟩ | ⟨q, _⟩
    · simp only [List.cons.injEq, and_true] at e
      rw [ints_inj (SL_inj e)]
    · exact absurd q (by decide)
  · rcases h' with ⟨q, _⟩ | ⟨_, c1', c2', c3', c4', z', _, e, rfl⟩
    · exact absurd q (by decide)
    · simp only [List.cons.injEq, T.agg.injEq, T.c.injEq, C.s.injEq, C.v.injEq, Value.int.injEq, and_true, true_and] at e
      obtain rfl : z = z' := by have := e.2; simp_all
      rfl
noncomputable def pr3 : FuncId → List T → Option R := relP Sp3 (butP NEW3 CALL2)
theorem pr3_ok : CallOK E0.P pr3 := relP_ok Sp3_ok (butP_ok (lim_sound mixed pr2_ok))
noncomputable abbrev CALL3 := (lim E0 pr3).call
theorem Sp3_not {f : FuncId} (h : f ≠ 26 ∧ f ≠ 88) (xs : List T) (r : R) : ¬ Sp3 f xs r := fun q => by
  rcases q with ⟨q, _⟩ | ⟨q, _⟩
  · exact h.1 q
  · exact h.2 q
theorem pr3_none {f : FuncId} (h : (f ≠ 26 ∧ f ≠ 88) ∧ f ∈ NEW3) (xs : List T) : pr3 f xs = none := (relP_none (Sp3_not h.1 xs)).trans (if_pos h.2)
theorem up3 {f : FuncId} {xs : List T} {r : R} (h : (f ≠ 26 ∧ f ≠ 88) ∧ f ∉ NEW3) (hc : CALL2 f xs = some r) : CALL3 f xs = some r :=
  lim_pr ((relP_none (Sp3_not h.1 xs)).trans ((if_neg h.2).trans hc))
theorem old3 {f : FuncId} {xs : List T} {r : R} (h : ((f ≠ 50 ∧ f ≠ 24) ∧ f ≠ 122 ∧ f ∉ NEW) ∧ (f ≠ 26 ∧ f ≠ 88) ∧ f ∉ NEW3) (hc : CALL f xs = some r) : CALL3 f xs = some r :=
  up3 h.2 (old2 h.1 hc)
theorem s3_Twice (b : Bool) (cap : Option Nat) (l : List Int) (h : (l.length : Int) * 8 ≤ 140737488351232) : CALL3 26 [SL b cap l.length (ints l)] = some (B (decide (¬ l.Nodup)), []) :=
  lim_pr (relP_of (.inl ⟨rfl, b, cap, l, h, rfl, rfl⟩) fun r' h' => Sp3_one (.inl ⟨rfl, b, cap, l, h, rfl, rfl⟩) h')
theorem s3_hinders (c1 c2 c3 c4 : Option Nat) (z : Int) (hz : z = 0 ∨ z = 1) : CALL3 88 [KT c1 c2 0 1 0, KT c3 c4 2 0 z, I 0, I 0] = some (.c (.v (.string (hS (decide (z = 1))))), []) :=
  lim_pr (relP_of (.inr ⟨rfl, c1, c2, c3, c4, z, hz, rfl, rfl⟩) fun r' h' => Sp3_one (.inr ⟨rfl, c1, c2, c3, c4, z, hz, rfl, rfl⟩) h')
theorem k_Equal (c c' : Option Nat) : CALL 68 [.c (.s c 1 [CI 4]), .c (.s c' 1 [CI 4])] = some (B true, []) := by
  have lq := fun S0 => lp_eq (S0 := S0) (pr := pr0) lp68_4
  refine lim_run (fn := Try.f68) fn68 rfl body68 (Nat.le_of_ble_eq_true rfl) ok68 ?_
  simp (config := { maxSteps := 1000000 }) (disch := omega) only [push_cast, ↓reduceIte, Nat.reduceEqDiff, Nat.reduceAdd, Nat.reduceLT, Nat.reduceLeDiff, Nat.reduceBEq, Nat.reduceMul, Nat.reduceSub, Int.reduceToNat, Int.reduceEq, Int.reduceLT, Int.reduceLE, Int.reduceNeg, Int.reduceAdd, Int.reduceSub, Int.reduceMul, Try.f68, kr68, kp68_4, ow68_4, ty3, ty4, ty28, tb4, SLt, USt, lq, ne_eq]
theorem nFlow : ¬ (ByteArray.mk #[102, 108, 111, 119]) = (ByteArray.mk #[]) := by decide
theorem s3_why (c1 c2 c3 c4 : Option Nat) (z : Int) (hz : z = 0 ∨ z = 1) : CALL3 77 [KT c1 c2 0 1 0, KT c3 c4 2 0 z] = some (.c (.v (.string (hS (decide (z = 1))))), []) := by
  have hh := fun c1 c2 c3 c4 => s3_hinders c1 c2 c3 c4 z hz
  have he := fun c c' => old3 (by decide) (k_Equal c c')
  have l6 := fun S0 => lp_eq (S0 := S0) (pr := pr3) lp77_6
  have l9 := fun S0 => lp_eq (S0 := S0) (pr := pr3) lp77_9
  refine lim_run (fn := Try.f77) fn77 (pr3_none (by decide) _) body77 (Nat.le_of_ble_eq_true rfl) ok77 ?_
  rcases hz with rfl | rfl
  · have e : hS (decide ((0 : Int) = 1)) = (ByteArray.mk #[]) := rfl
    rw [e] at hh ⊢
    simp (config := { maxSteps := 1000000 }) (disch := omega) only [push_cast, ↓reduceIte, Nat.reduceEqDiff, Nat.reduceAdd, Nat.reduceLT, Nat.reduceLeDiff, Nat.reduceBEq, Nat.reduceMul, Nat.reduceSub, Int.reduceToNat, Int.reduceEq, Int.reduceLT, Int.reduceLE, Int.reduceNeg, Int.reduceAdd, Int.reduceSub, Int.reduceMul, Try.f77, kr77, kp77_9, kp77_6, ow77_9, ow77_6, ty3, ty9, ty28, ty30, ty85, ty87, ty89, ty91, ty93, SLt, USt, hh, he, l6, l9, ne_eq]
  · have e : hS (decide ((1 : Int) = 1)) = (ByteArray.mk #[102, 108, 111, 119]) := rfl
    rw [e] at hh ⊢
    simp (config := { maxSteps := 1000000 }) (disch := omega) only [push_cast, ↓reduceIte, Nat.reduceEqDiff, Nat.reduceAdd, Nat.reduceLT, Nat.reduceLeDiff, Nat.reduceBEq, Nat.reduceMul, Nat.reduceSub, Int.reduceToNat, Int.reduceEq, Int.reduceLT, Int.reduceLE, Int.reduceNeg, Int.reduceAdd, Int.reduceSub, Int.reduceMul, Try.f77, kr77, kp77_9, kp77_6, ow77_9, ow77_6, ty3, ty9, ty28, ty30, ty85, ty87, ty89, ty91, ty93, SLt, USt, hh, he, l6, l9, ne_eq, nFlow]
theorem k_isKernel (c1 c2 : Option Nat) (t f z : Int) (hz : okR z [4] [1]) : CALL 76 [KT c1 c2 t f z] = some (B true, []) := by
  have hf := k_Formed c1 c2 t f z hz
  refine lim_run (fn := Try.f76) fn76 rfl body76 (Nat.le_of_ble_eq_true rfl) ok76 ?_
  simp (config := { maxSteps := 1000000 }) (disch := omega) only [push_cast, ↓reduceIte, Nat.reduceEqDiff, Nat.reduceAdd, Nat.reduceLT, Nat.reduceLeDiff, Nat.reduceBEq, Nat.reduceMul, Nat.reduceSub, Int.reduceToNat, Int.reduceEq, Int.reduceLT, Int.reduceLE, Int.reduceNeg, Int.reduceAdd, Int.reduceSub, Int.reduceMul, Try.f76, kr76, ty3, ty4, ty9, ty28, ty30, ty85, ty87, ty89, ty91, ty93, tb4, SLt, USt, hf]
theorem okz {z : Int} (hz : z = 0 ∨ z = 1) : okR z [4] [1] := by
  rcases hz with rfl | rfl <;> decide
theorem s3_Why (c1 c2 c3 c4 : Option Nat) (z : Int) (hz : z = 0 ∨ z = 1) : CALL3 47 [KT c1 c2 0 1 0, KT c3 c4 2 0 z] = some (.tup [.c (.v (.string (hS (decide (z = 1))))), I 0], []) := by
  have h1 := old3 (by decide) (k_isKernel c1 c2 0 1 0 (by decide))
  have h2 := old3 (by decide) (k_isKernel c3 c4 2 0 z (okz hz))
  have hw := s3_why c1 c2 c3 c4 z hz
  refine lim_run (fn := Try.f47) fn47 (pr3_none (by decide) _) body47 (Nat.le_of_ble_eq_true rfl) ok47 ?_
  simp (config := { maxSteps := 1000000 }) (disch := omega) only [push_cast, ↓reduceIte, Nat.reduceEqDiff, Nat.reduceAdd, Nat.reduceLT, Nat.reduceLeDiff, Nat.reduceBEq, Nat.reduceMul, Nat.reduceSub, Int.reduceToNat, Int.reduceEq, Int.reduceLT, Int.reduceLE, Int.reduceNeg, Int.reduceAdd, Int.reduceSub, Int.reduceMul, Try.f47, kr47, ty3, ty9, ty25, ty28, ty30, ty85, ty87, ty89, ty91, ty93, SLt, USt, h1, h2, hw]
theorem s3_May (c1 c2 c3 c4 : Option Nat) : CALL3 48 [KT c1 c2 0 1 0, KT c3 c4 2 0 0] = some (.tup [B true, I 0], []) := by
  have hw := s3_Why c1 c2 c3 c4 0 (.inl rfl)
  rw [show hS (decide ((0 : Int) = 1)) = (ByteArray.mk #[]) from rfl] at hw
  refine lim_run (fn := Try.f48) fn48 (pr3_none (by decide) _) body48 (Nat.le_of_ble_eq_true rfl) ok48 ?_
  simp (config := { maxSteps := 1000000 }) (disch := omega) only [push_cast, ↓reduceIte, Nat.reduceEqDiff, Nat.reduceAdd, Nat.reduceLT, Nat.reduceLeDiff, Nat.reduceBEq, Nat.reduceMul, Nat.reduceSub, Int.reduceToNat, Int.reduceEq, Int.reduceLT, Int.reduceLE, Int.reduceNeg, Int.reduceAdd, Int.reduceSub, Int.reduceMul, Try.f48, kr48, ty3, ty4, ty9, ty25, ty28, ty30, ty85, ty87, ty89, ty91, ty93, tb4, SLt, USt, hw]
theorem s3_Awake : CALL3 16 [] = some (B true, []) := by
  have h1 := fun t f z => old3 (by decide) (k_set t f z)
  have h2 := fun c1 c2 c3 c4 => s3_Why c1 c2 c3 c4 1 (.inr rfl)
  rw [show hS (decide ((1 : Int) = 1)) = (ByteArray.mk #[102, 108, 111, 119]) from rfl] at h2
  refine lim_run (fn := Try.f16) fn16 (pr3_none (by decide) _) body16 (Nat.le_of_ble_eq_true rfl) ok16 ?_
  simp (config := { maxSteps := 1000000 }) (disch := omega) only [push_cast, ↓reduceIte, Nat.reduceEqDiff, Nat.reduceAdd, Nat.reduceLT, Nat.reduceLeDiff, Nat.reduceBEq, Nat.reduceMul, Nat.reduceSub, Int.reduceToNat, Int.reduceEq, Int.reduceLT, Int.reduceLE, Int.reduceNeg, Int.reduceAdd, Int.reduceSub, Int.reduceMul, Try.f16, kr16, ty3, ty4, ty9, ty28, ty30, ty85, ty87, ty89, ty91, ty93, tb4, SLt, USt, range_11, rowAt_11, h1, h2, s3_May, ne_eq]
end Go.Proofs.Ytnbijiopcgfmfaa.Tev
