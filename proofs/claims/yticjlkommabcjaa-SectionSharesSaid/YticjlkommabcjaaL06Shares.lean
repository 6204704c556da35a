/- The law SectionShares: what it returns for any descriptors. -/
import Derived.Test.YticjlkommabcjaaC06Awake
import Derived.Test.YticjlkommabcjaaCRef2
namespace Go.Proofs.Yticjlkommabcjaa.Tev
open Go Go.RowKit Go.Proofs Go.Proofs.Yticjlkommabcjaa.Q
set_option linter.unusedSectionVars false
set_option maxRecDepth 100000
set_option maxHeartbeats 0
set_option linter.unusedSimpArgs false
set_option linter.unusedVariables false
theorem shareQ_comm (a : Int) (E S : List Int) (b : Int) (E' S' : List Int) : shareQ b E' S' a E S = shareQ a E S b E' S' := by
  unfold shareQ
  rw [Bool.eq_iff_iff]
  simp only [Bool.and_eq_true, decide_eq_true_eq, List.any_eq_true, List.contains_iff_mem]
  constructor
  · rintro ⟨⟨h1, h2⟩, x, h3, h4⟩; exact ⟨⟨h2, h1⟩, x, h4, h3⟩
  · rintro ⟨⟨h1, h2⟩, x, h3, h4⟩; exact ⟨⟨h2, h1⟩, x, h4, h3⟩
theorem errDD_comm (a : Int) (E S : List Int) (b : Int) (E' S' : List Int) : errDD b E' S' a E S = errDD a E S b E' S' := by
  unfold errDD
  by_cases h1 : okD a E S <;> by_cases h2 : okD b E' S' <;> simp [h1, h2]
theorem shareQ_self (a : Int) (E S : List Int) : shareQ a E S a E S = decide (0 < sizeD a E S) := by
  unfold shareQ sizeD
  by_cases h : okD a E S
  · have h1 := placesQ_nil h
    have h2 := pr_nonneg fun e he => (h.1.2 e he).1
    rw [if_pos h, Bool.eq_iff_iff]
    simp only [Bool.and_eq_true, decide_eq_true_eq, List.any_eq_true, List.contains_iff_mem, and_self]
    constructor
    · rintro ⟨_, x, h3⟩
      refine Decidable.byContradiction fun hc => ?_
      rw [h1.2 (by omega)] at h3; simp at h3
    · intro h3
      refine ⟨h, ?_⟩
      cases hp : placesQ a E S with
      | nil => have := h1.1 hp; omega
      | cons x l => exact ⟨x, by simp⟩
  · simp [h]
theorem len_bd {xs : List Int} (h : xs.length * 8 ≤ 140737488351232) : (xs.length : Int) ≤ 9223372036854775806 := by omega
theorem SectionShares_true' (a : Int) (E S : List Int) (b : Int) (E' S' : List Int) (ha : a ≤ 9223372036854775807) (hb : b ≤ 9223372036854775807) (hE : (E.length : Int) ≤ 9223372036854775806) (hS : (S.length : Int) ≤ 9223372036854775806) (hE' : (E'.length : Int) ≤ 9223372036854775806) (hS' : (S'.length : Int) ≤ 9223372036854775806) :
    CALL 8 [Dsc a true none E true none S, Dsc b true none E' true none S'] = some (B true, []) := by
  have h1 := c_Share a true true none none E S b true true none none E' S' hE hS hE' hS'
  have h2 := r_Share a true true none none E S b true true none none E' S' ha hb
  have h3 := c_Share b true true none none E' S' a true true none none E S hE' hS' hE hS
  have h4 := c_Share a true true none none E S a true true none none E S hE hS hE hS
  have h5 := c_Size a true true none none E S hE hS
  rw [shareQ_comm, errDD_comm] at h3
  rw [shareQ_self, show errDD a E S a E S = errD a E S by unfold errDD errD; simp] at h4
  refine lim_run (fn := Try.f8) fn8 rfl body8 (Nat.le_of_ble_eq_true rfl) ok8 ?_
  simp (config := { maxSteps := 1000000 }) (disch := omega) only [params, ex_skip, ex_seq, ex_region, ex_block, ex_loop, ex_cond, ex_exit, ex_leave, ex_blk, ex_pass_code, ex_pass_ops, ex_ret, exec_ret, exec_ret_nil, exec_nil, ex_ops_nil, ex_op, ex_guard, toL, isW, opN, opW, St.ev, St.evP, get, constT, cellT, put1_val, put1_new, put1_drop, put1_frz, put1_ite, put1_cond, putW_some, putW_dst, putW_ite, putW_none, put1_none, ↓reduceIte, Nat.reduceEqDiff, bin_add, bin_lss, bin_leq, bin_geq, bin_gtr, bin_eql, bin_neq, bin_eqlS, bin_neqS, bin_sub, bin_mul, bin_quo, bin_rem, un_neg, un_not, maxT_i, minT_i, w0, gtmp, List.getElem?_toArray, List.getElem?_cons_succ, List.getElem?_cons_zero, bind_some, bind_none, map_some, map_none, bind_ite, map_ite, guard1_bool, guard1_und, St.put, St.putO, fin_ret, fin_nor, fin_none, fin_ite, fin_cond, retT, mapO, resT, expT, expL, List.headD_cons, List.headD_nil, List.tail_cons, List.tail_nil, v0_some, v0_none, v0_ite, v0_cond, v1_some, v1_none, v1_ite, pickT, allocT, loadT, obj, storeT, fieldAddrT, index_s, index_tmp, index_sl, index_pt, index_rp, extractT, builtinT, callT_nrm, List.map_cons, List.map_nil, addO, splice, setO, cond1_tmp, cond1_const, arrs, pick1, List.append_nil, List.nil_append, List.cons_append, Nat.reduceAdd, Nat.zero_add, Nat.add_zero, List.length_cons, List.length_nil, List.all_cons, List.all_nil, Bool.and_true, Bool.true_and, Bool.false_and, Bool.and_false, Bool.or_true, Bool.true_or, Bool.or_false, Bool.false_or, Nat.lt_irrefl, Nat.reduceLT, Nat.reduceLeDiff, and_true, true_and, Bool.false_eq_true, List.drop_succ_cons, List.drop_zero, List.take_succ_cons, List.take_zero, E0P, findLoop, firstId, ints_at, Nat.mul_one, Nat.zero_mul, focus, focK, focL, focPs, look, Bool.not_true, Bool.not_false, endL_none, endL_nor, endL_ret, endL_exit, endL_ite, loop_lp, loop1_some, loop1_none, loop1_ite, prep, own1, tipOk, frzGs, frzG, frz1, killG, kill1, not_dec, not_false_eq_true, Option.getD_some, codeOf, loopIn, US_toT, index_SL, asI_I, lenT_SL, sliceT_SL, shown_SL, snapC_SL, snapP_SL, snap_SL, focC_SL, focP_SL, foc1_SL, cellsOf_SL, oneT_SL, toC_SL, expC_SL, focC_sl, focC_mp, focC_c, focC_tmp, focC_rp, focC_rb, focC_und, focC_junk, focP_pt, focP_sl, focP_mp, focP_c, focP_tmp, focP_rp, focP_rb, focP_junk, foc1_agg, foc1_tup, foc1_fn, foc1_pt, foc1_sl, foc1_mp, foc1_c, foc1_tmp, foc1_rp, foc1_rb, foc1_und, foc1_junk, snapC_sl, snapC_c, snapC_tmp, snapC_rp, snapC_mp, snapC_ms, snapP_mp, snapP_ms, snap_mp, snap_ms, focC_ms, focP_ms, foc1_ms, lenT_ms, cellsOf_ms, oneT_ms, toT_ms, nrm_ms, nrmU_ms, mapOf, snapC_junk, snapP_pt, snapP_rb, snapP_sl, snapP_c, snapP_tmp, snapP_rp, snapP_junk, snap_agg, snap_fn, snap_pt, snap_rb, snap_sl, snap_c, snap_tmp, snap_rp, snap_junk, lenT_str, lenT_s, lenT_tmp, lenT_sl, lenT_mp, sliceT_s, sliceT_tmp, sliceT_sl, shown_s, shown_tmp, shown_sl, cellsOf_agg, cellsOf_c, cellsOf_tmp, cellsOf_sl, cellsOf_pt, cellsOf_mp, cellsOf_fn, oneT_c, oneT_tmp, oneT_sl, oneT_pt, oneT_mp, oneT_fn, toC_c, toC_sl, expC_sl, expC_nil, expC_v, expC_s, expA_agg, expA_c, expA_sl, expA_SL, toT_c, toT_junk, toT_tmp, toT_rp, liftC_sl, liftC_c, liftA_agg, liftA_sl, liftA_c, lift_tup, lift_agg, lift_sl, lift_c, nilT_pt, nilT_rp, nilT_rb, nrm_s, nrm_tmp, nrm_SL, nrmU_s, nrmU_tmp, nrmU_US, nrm_v, nrmU_v, nrm_agg, nrm_fn, nrm_rb, nrm_rp, nrm_junk, nrmU_junk, nrmU_rp, range_1, range_2, range_3, range_4, range_5, range_6, if_le, eq_self, ints_len, ints_snoc, ints_append, ints_1, ints_0, List.contains_nil, List.contains_cons, Nat.reduceBEq, rowAt_1, rowAt_2, rowAt_3, rowAt_4, rowAt_5, rowAt_ints, rowAt_ints2, rowAt_nil, rowAt_all, List.set_cons_succ, List.set_cons_zero, buildT, buildSliceT, fillT, Pl.at, toCs, List.replicate, List.flatten_cons, List.flatten_nil, appendT, app1, sliceO, sliceBnd, lowB, boundI, fieldT, partT, makeFuncT, makeMapT, lookupT, mapUpdateT, List.size_toArray, frOk, List.length_append, Nat.reduceMul, Nat.reduceSub, min_11, min_21, min_01, decide_true, decide_false, Int.reduceToNat, natc_0, natc_1, natc_2, natc_3, natc_4, natc_5, natc_6, natc_7, natc_8, natc_9, natc_10, Int.reduceEq, Int.reduceLT, Int.reduceLE, Int.reduceNeg, Int.reduceAdd, Int.reduceSub, Int.reduceMul, not_true_eq_false, false_and, and_false, Int.natCast_nonneg, Int.toNat_natCast, i64_wrap, decide_eq_true_eq, cond_true, cond_false, Try.f8, kr8, ty3, ty4, ty29, ty31, tb4, h1, h2, h3, h4, h5, c_Awake]
/-- A descriptor as it comes in. -/
abbrev DscQ := Int × List Int × List Int
def okDscQ (d : DscQ) : Prop := (-9223372036854775808 ≤ d.1 ∧ d.1 ≤ 9223372036854775807) ∧ (d.2.1.length * 8 ≤ 140737488351232 ∧ ∀ a ∈ d.2.1, -9223372036854775808 ≤ a ∧ a ≤ 9223372036854775807) ∧ (d.2.2.length * 8 ≤ 140737488351232 ∧ ∀ a ∈ d.2.2, -9223372036854775808 ≤ a ∧ a ≤ 9223372036854775807)
theorem SectionShares_true (d e : DscQ) (hd : okDscQ d) (he : okDscQ e) : CALL 8 [Dsc d.1 true none d.2.1 true none d.2.2, Dsc e.1 true none e.2.1 true none e.2.2] = some (B true, []) :=
  SectionShares_true' d.1 d.2.1 d.2.2 e.1 e.2.1 e.2.2 hd.1.2 he.1.2 (len_bd hd.2.1.1) (len_bd hd.2.2.1) (len_bd he.2.1.1) (len_bd he.2.2.1)
end Go.Proofs.Yticjlkommabcjaa.Tev
