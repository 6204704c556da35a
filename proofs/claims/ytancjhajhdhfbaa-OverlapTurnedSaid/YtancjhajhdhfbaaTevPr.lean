/- What is taken for told of the library, and words that all contracts share. -/
import Derived.Test.YtancjhajhdhfbaaTevFn
import Derived.Test.YtancjhajhdhfbaaQAr
namespace Go.Proofs.Ytancjhajhdhfbaa.Tev
open Go Go.RowKit Go.Proofs Go.Proofs.Ytancjhajhdhfbaa.Q
set_option linter.unusedSectionVars false
set_option maxRecDepth 100000
set_option linter.unusedVariables false
set_option linter.unusedSimpArgs false
theorem maxT_i (k : IntKind) (x y : Int) : maxT (.c (.v (.int k x))) (.c (.v (.int k y))) = some (.c (.v (.int k (mx x y)))) := rfl
theorem minT_i (k : IntKind) (x y : Int) : minT (.c (.v (.int k x))) (.c (.v (.int k y))) = some (.c (.v (.int k (mn x y)))) := rfl
attribute [push_cast] params ex_skip ex_seq ex_region E0fz frzA_nil frzA_cons fzCell_sl fzCell_c fzCell_SL fz1_pt fz1_sl fzCells fzTs ex_block ex_loop ex_cond ex_exit ex_leave ex_blk ex_pass_code ex_pass_ops ex_ret exec_ret exec_ret_nil exec_nil ex_ops_nil ex_op ex_guard toL isW opN opW St.ev St.evP get constT cellT put1_val put1_new put1_drop put1_frz put1_ite put1_cond putW_some putW_dst putW_ite putW_none put1_none bin_add bin_lss bin_leq bin_geq bin_gtr bin_eql bin_neq bin_eqlS bin_neqS bin_sub bin_mul bin_quo bin_rem un_neg un_not maxT_i minT_i w0 gtmp List.getElem?_toArray List.getElem?_cons_succ List.getElem?_cons_zero bind_some bind_none map_some map_none bind_ite map_ite guard1_bool guard1_und St.put St.putO fin_ret fin_nor fin_none fin_ite fin_cond retT mapO resT expT expL List.headD_cons List.headD_nil List.tail_cons List.tail_nil v0_some v0_none v0_ite v0_cond v1_some v1_none v1_ite pickT allocT loadT obj storeT fieldAddrT index_s index_tmp index_sl index_pt index_rp extractT builtinT callT_nrm List.map_cons List.map_nil addO splice_succ splice_cons0 splice_nil0 splice_ints setO cond1_tmp cond1_const arrs pick1 List.append_nil List.nil_append List.cons_append Nat.zero_add Nat.add_zero List.length_cons List.length_nil List.all_cons List.all_nil Bool.and_true Bool.true_and Bool.false_and Bool.and_false Bool.or_true Bool.true_or Bool.or_false Bool.false_or Nat.lt_irrefl and_true true_and Bool.false_eq_true List.drop_succ_cons List.drop_zero List.take_succ_cons List.take_zero E0P findLoop firstId ints_at Nat.mul_one Nat.zero_mul focus focK focL focPs look Bool.not_true Bool.not_false endL_none endL_nor endL_ret endL_exit endL_ite loop_lp loop1_some loop1_none loop1_ite prep own1 tipOk frzGs frzG frz1 killG kill1 not_dec not_false_eq_true Option.getD_some codeOf loopIn US_toT index_SL asI_I lenT_SL sliceT_SL shown_SL snapC_SL snapP_SL snap_SL focC_SL focP_SL foc1_SL cellsOf_SL oneT_SL toC_SL expC_SL focC_sl focC_mp focC_c focC_tmp focC_rp focC_rb focC_und focC_junk focP_pt focP_sl focP_mp focP_c focP_tmp focP_rp focP_rb focP_junk foc1_agg foc1_tup foc1_fn foc1_pt foc1_sl foc1_mp foc1_c foc1_tmp foc1_rp foc1_rb foc1_und foc1_junk snapC_sl snapC_c snapC_tmp snapC_rp snapC_mp snapC_ms snapP_mp snapP_ms snap_mp snap_ms focC_ms focP_ms foc1_ms lenT_ms cellsOf_ms oneT_ms toT_ms nrm_ms nrmU_ms mapOf snapC_junk snapP_pt snapP_rb snapP_sl snapP_c snapP_tmp snapP_rp snapP_junk snap_agg snap_fn snap_pt snap_rb snap_sl snap_c snap_tmp snap_rp snap_junk lenT_str lenT_s lenT_tmp lenT_sl lenT_mp sliceT_s sliceT_tmp sliceT_sl shown_s shown_tmp shown_sl cellsOf_agg cellsOf_c cellsOf_tmp cellsOf_sl cellsOf_pt cellsOf_mp cellsOf_fn oneT_c oneT_tmp oneT_sl oneT_pt oneT_mp oneT_fn toC_c toC_sl expC_sl expC_nil expC_v expC_s expA_agg expA_c expA_sl expA_SL toT_c toT_junk toT_tmp toT_rp liftC_sl liftC_c liftA_agg liftA_sl liftA_c lift_tup lift_agg lift_sl lift_c nilT_pt nilT_rp nilT_rb nrm_s nrm_tmp nrm_SL nrmU_s nrmU_tmp nrmU_US nrm_v nrmU_v nrm_agg nrm_fn nrm_rb nrm_rp nrm_junk nrmU_junk nrmU_rp range_1 range_2 range_3 range_4 range_5 range_6 if_le eq_self ints_len ints_snoc ints_append ints_1 ints_0 List.contains_nil List.contains_cons rowAt_1 rowAt_2 rowAt_3 rowAt_4 rowAt_5 rowAt_ints rowAt_ints2 rowAt_nil rowAt_all List.set_cons_succ List.set_cons_zero buildT buildSliceT fill_nil0 fill_nil fill_cons Pl.at toCs List.replicate List.flatten_cons List.flatten_nil appendT app1 sliceO sliceBnd lowB boundI fieldT partT makeFuncT makeMapT lookupT mapUpdateT List.size_toArray frOk List.length_append min_11 min_21 min_01 decide_true decide_false natc_0 natc_1 natc_2 natc_3 natc_4 natc_5 natc_6 natc_7 natc_8 natc_9 natc_10 not_true_eq_false false_and and_false Int.natCast_nonneg Int.toNat_natCast i64_wrap decide_eq_true_eq cond_true cond_false
def pr0 : FuncId → List T → Option R := fun _ _ => none
noncomputable abbrev CALL := (lim E0 pr0).call
theorem mixed : E0.P.follows .mixedOrders = true := by kernel_rfl
theorem pr0_ok : CallOK E0.P pr0 := fun f ts r h => by simp [pr0] at h
/-- Captured values that are only read. -/
def Shut (l : List T) : Prop := ∀ x ∈ l, (∃ q o, x = .rb q o) ∨ (∃ p q o, x = .rp p q o) ∨ ∃ c, x = .c c
theorem shut_snap (S : St) : ∀ {l : List T}, Shut l → mapO (snapP S) l = some l
  | [], _ => rfl
  | x :: l, h => by
    have h1 : snapP S x = some x := by rcases h x (by simp) with ⟨q, o, rfl⟩ | ⟨p, q, o, rfl⟩ | ⟨c, rfl⟩ <;> rfl
    simp only [mapO, h1, Option.bind_some, shut_snap S (l := l) fun y hy => h y (by simp [hy]), Option.map_some]
theorem shut_foc (S : St) (d : Bool) (F : Foc) : ∀ {l : List T}, Shut l → focPs S d l F = some (l, F)
  | [], _ => rfl
  | x :: l, h => by
    have h1 : focP S d F x = some (x, F) := by rcases h x (by simp) with ⟨q, o, rfl⟩ | ⟨p, q, o, rfl⟩ | ⟨c, rfl⟩ <;> rfl
    simp only [focPs, h1, Option.bind_some, shut_foc S d F (l := l) fun y hy => h y (by simp [hy]), Option.map_some]
theorem map_nrm (l : List T) : l.map nrm = l := by rw [nrm_id, List.map_id]
theorem shut_nil : Shut [] := fun x h => by simp at h
theorem shut_rb (q : List U) (o : Nat) : Shut [.rb q o] := fun x h => by simp at h; subst h; exact .inl ⟨_, _, rfl⟩
theorem shut_rb2 (q q' : List U) (o o' : Nat) : Shut [.rb q o, .rb q' o'] := fun x h => by simp at h; rcases h with rfl | rfl <;> exact .inl ⟨_, _, rfl⟩
end Go.Proofs.Ytancjhajhdhfbaa.Tev
