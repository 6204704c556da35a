/- What is taken for told of the library, and words that all contracts share. -/
import Derived.Test.YtnbijiopcgfmfaaTevFn
import Derived.Test.YtnbijiopcgfmfaaQAr
import Derived.Test.YtnbijiopcgfmfaaTevNil
namespace Go.Proofs.Ytnbijiopcgfmfaa.Tev
open Go Go.RowKit Go.Proofs Go.Proofs.Ytnbijiopcgfmfaa.Q
set_option linter.unusedSectionVars false
set_option maxRecDepth 100000
set_option linter.unusedVariables false
set_option linter.unusedSimpArgs false
theorem maxT_i (k : IntKind) (x y : Int) : maxT (.c (.v (.int k x))) (.c (.v (.int k y))) = some (.c (.v (.int k (mx x y)))) := rfl
theorem minT_i (k : IntKind) (x y : Int) : minT (.c (.v (.int k x))) (.c (.v (.int k y))) = some (.c (.v (.int k (mn x y)))) := rfl
attribute [push_cast] params ex_skip ex_seq ex_region E0fz frzA_nil frzA_cons fzCell_sl fzCell_c fzCell_SL fz1_pt fz1_sl fzCells fzTs ex_block ex_loop ex_cond ex_exit ex_leave ex_blk ex_pass_code ex_pass_ops ex_ret exec_ret exec_ret_nil exec_nil ex_ops_nil ex_op ex_guard toL isW opN opW St.ev St.evP get constT cellT put1_val put1_new put1_drop put1_frz put1_ite put1_cond putW_some putW_dst putW_ite putW_none put1_none bin_add bin_lss bin_leq bin_geq bin_gtr bin_eql bin_neq bin_eqlS bin_neqS bin_sub bin_mul bin_quo bin_rem un_neg un_not maxT_i minT_i w0 gtmp List.getElem?_toArray List.getElem?_cons_succ List.getElem?_cons_zero bind_some bind_none map_some map_none bind_ite map_ite guard1_bool guard1_und St.put St.putO fin_ret fin_nor fin_none fin_ite fin_cond retT mapO resT expT expL List.headD_cons List.headD_nil List.tail_cons List.tail_nil v0_some v0_none v0_ite v0_cond v1_some v1_none v1_ite pickT allocT loadT obj storeT fieldAddrT index_s index_tmp index_sl index_pt index_rp extractT builtinT callT_nrm List.map_cons List.map_nil addO splice_succ splice_cons0 splice_nil0 splice_ints setO cond1_tmp cond1_const arrs pick1 List.append_nil List.nil_append List.cons_append Nat.zero_add Nat.add_zero List.length_cons List.length_nil List.all_cons List.all_nil Bool.and_true Bool.true_and Bool.false_and Bool.and_false Bool.or_true Bool.true_or Bool.or_false Bool.false_or Nat.lt_irrefl and_true true_and Bool.false_eq_true List.drop_succ_cons List.drop_zero List.take_succ_cons List.take_zero E0P findLoop firstId ints_at Nat.mul_one Nat.zero_mul focus focK focL focPs look Bool.not_true Bool.not_false endL_none endL_nor endL_ret endL_exit endL_ite loop_lp loop1_some loop1_none loop1_ite prep own1 tipOk frzGs frzG frz1 killG kill1 not_dec not_false_eq_true Option.getD_some codeOf loopIn US_toT index_SL asI_I lenT_SL sliceT_SL shown_SL snapC_SL snapP_SL snap_SL focC_SL focP_SL foc1_SL cellsOf_SL oneT_SL toC_SL expC_SL focC_sl focC_mp focC_c focC_tmp focC_rp focC_rb focC_und focC_junk focP_pt focP_sl focP_mp focP_c focP_tmp focP_rp focP_rb focP_junk foc1_agg foc1_tup foc1_fn foc1_pt foc1_sl foc1_mp foc1_c foc1_tmp foc1_rp foc1_rb foc1_und foc1_junk snapC_sl snapC_c snapC_tmp snapC_rp snapC_mp snapC_ms snapP_mp snapP_ms snap_mp snap_ms focC_ms focP_ms foc1_ms lenT_ms cellsOf_ms oneT_ms toT_ms nrm_ms nrmU_ms mapOf snapC_junk snapP_pt snapP_rb snapP_sl snapP_c snapP_tmp snapP_rp snapP_junk snap_agg snap_fn snap_pt snap_rb snap_sl snap_c snap_tmp snap_rp snap_junk lenT_str lenT_s lenT_tmp lenT_sl lenT_mp sliceT_s sliceT_tmp sliceT_sl shown_s shown_tmp shown_sl cellsOf_agg cellsOf_c cellsOf_tmp cellsOf_sl cellsOf_pt cellsOf_mp cellsOf_fn oneT_c oneT_tmp oneT_sl oneT_pt oneT_mp oneT_fn toC_c toC_sl expC_sl expC_nil expC_v expC_s expA_agg expA_c expA_sl expA_SL toT_c toT_junk toT_tmp toT_rp liftC_sl liftC_c liftA_agg liftA_sl liftA_c lift_tup lift_agg lift_sl lift_c nilT_pt nilT_rp nilT_rb nrm_s nrm_tmp nrm_SL nrmU_s nrmU_tmp nrmU_US nrm_v nrmU_v nrm_agg nrm_fn nrm_rb nrm_rp nrm_junk nrmU_junk nrmU_rp range_1 range_2 range_3 range_4 range_5 range_6 if_le eq_self ints_len ints_snoc ints_append ints_1 ints_0 List.contains_nil List.contains_cons rowAt_1 rowAt_2 rowAt_3 rowAt_4 rowAt_5 rowAt_ints rowAt_ints2 rowAt_nil rowAt_all List.set_cons_succ List.set_cons_zero buildT buildSliceT fill_nil0 fill_nil fill_cons Pl.at toCs List.replicate List.flatten_cons List.flatten_nil appendT app1 sliceO sliceBnd lowB boundI fieldT partT makeFuncT makeMapT lookupT mapUpdateT List.size_toArray frOk List.length_append min_11 min_21 min_01 decide_true decide_false natc_0 natc_1 natc_2 natc_3 natc_4 natc_5 natc_6 natc_7 natc_8 natc_9 natc_10 not_true_eq_false false_and and_false Int.natCast_nonneg Int.toNat_natCast i64_wrap decide_eq_true_eq cond_true cond_false
/-- slices.Clone, at elements of sz cells, by bytes. -/
def cloneR (sz by_ : Nat) : List T → Option R
  | [.c (.s _ n l)] => if l.length = n * sz ∧ n * by_ ≤ 140737488355328 then some (.sl 0 0 n sz none, [l]) else none
  | [.tmp _ n l] => if l.length = n * sz ∧ n * by_ ≤ 140737488355328 then some (.sl 0 0 n sz none, [l]) else none
  | _ => none
theorem cloneR_SL {sz by_ : Nat} {ts : List T} {r : R} (h : cloneR sz by_ ts = some r) : ∃ b cap n l, ts = [SL b cap n l] ∧ l.length = n * sz ∧ n * by_ ≤ 140737488355328 ∧ r = (.sl 0 0 n sz none, [l]) := by
  unfold cloneR at h
  split at h
  · split at h
    · rename_i hc; obtain rfl := Option.some.inj h; exact ⟨true, _, _, _, rfl, hc.1, hc.2, rfl⟩
    · simp at h
  · split at h
    · rename_i hc; obtain rfl := Option.some.inj h; exact ⟨false, _, _, _, rfl, hc.1, hc.2, rfl⟩
    · simp at h
  · simp at h
theorem cloneR_of (sz by_ : Nat) (b : Bool) (cap : Option Nat) (n : Nat) (l : List C) (h1 : l.length = n * sz) (h2 : n * by_ ≤ 140737488355328) : cloneR sz by_ [SL b cap n l] = some (.sl 0 0 n sz none, [l]) := by
  cases b <;> exact if_pos ⟨h1, h2⟩
noncomputable def pr0 : FuncId → List T → Option R := fun f xs => if f = 43 then cloneR 1 8 xs else none
noncomputable abbrev CALL := (lim E0 pr0).call
theorem mixed : E0.P.follows .mixedOrders = true := by kernel_rfl
theorem clone_ok {r : R} {ts : List T} (h : cloneR 1 8 ts = some r) : (∃ fn, E0.P.funcs[43]? = some fn ∧ (fn.name == "runtime.NumGoroutine") = false ∧ fn.body.isNone = false) ∧
    ∀ (w : World) (F : Nat → Prop) (us : List Value), (∀ b, F b → b < w.heap.size) → RTs ⟨w, F, w.heap.size, fun _ => none⟩ ts us →
      Calls E0.P 43 us.toArray w fun e w' => ∃ v, e = .returned v ∧ Below w.heap.size w w' ∧ ResOK F w w' r.1 r.2 v := by
  obtain ⟨b, cap, n, l, rfl, h1, h2, rfl⟩ := cloneR_SL h
  have hb : Try.f43.body = some (.seq (sA (codeOf Try.f43)) (.seq (.seq (.region 1 #[opAt 0 (sA (sA (sB (codeOf Try.f43)))), opAt 1 (sA (sA (sB (codeOf Try.f43))))] false) (.cond (.tmp 4) (cX (sB (sA (sB (codeOf Try.f43))))) .skip)) (sB (sB (codeOf Try.f43))))) := by kernel_rfl
  refine nil_calls mixed (t := 28) (t2 := 28) (s := 0) (d1 := 3) (d2 := 4) (k := n) (l := l) fn43 (by kernel_rfl) hb (by kernel_rfl) (by kernel_rfl) (by kernel_rfl) (by kernel_rfl) (by kernel_rfl) (by kernel_rfl) (e := 3) (by kernel_rfl)
    (Nat.le_of_ble_eq_true rfl) (Nat.le_of_ble_eq_true rfl) (Nat.le_of_ble_eq_true rfl) (by kernel_rfl) (by kernel_rfl) (by kernel_rfl) (by kernel_rfl) (by kernel_rfl) (by kernel_rfl) ⟨b, cap, rfl⟩ (S1 := ⟨[(2, .c (.s (some 0) 0 [])), (0, SL b cap n l)], [], 0⟩) ?_ ?_ ?_ ?_
  · rw [← exec_te]
    simp (config := { maxSteps := 1000000 }) (disch := omega) only [push_cast, ↓reduceIte, Nat.reduceEqDiff, Nat.reduceAdd, Nat.reduceLT, Nat.reduceLeDiff, Nat.reduceBEq, Nat.reduceMul, Nat.reduceSub, Int.reduceToNat, Int.reduceEq, Int.reduceLT, Int.reduceLE, Int.reduceNeg, Int.reduceAdd, Int.reduceSub, Int.reduceMul, Try.f43, kr43, ty3, ty28, sA]
  · simp (config := { maxSteps := 1000000 }) (disch := omega) only [push_cast, ↓reduceIte, Nat.reduceEqDiff, Nat.reduceAdd, Nat.reduceLT, Nat.reduceLeDiff, Nat.reduceBEq, Nat.reduceMul, Nat.reduceSub, Int.reduceToNat, Int.reduceEq, Int.reduceLT, Int.reduceLE, Int.reduceNeg, Int.reduceAdd, Int.reduceSub, Int.reduceMul]
  · rintro rfl rfl
    simp (config := { maxSteps := 1000000 }) (disch := omega) only [push_cast, ↓reduceIte, Nat.reduceEqDiff, Nat.reduceAdd, Nat.reduceLT, Nat.reduceLeDiff, Nat.reduceBEq, Nat.reduceMul, Nat.reduceSub, Int.reduceToNat, Int.reduceEq, Int.reduceLT, Int.reduceLE, Int.reduceNeg, Int.reduceAdd, Int.reduceSub, Int.reduceMul, Try.f43, kr43, ty3, ty28, sA, sB, cX, finR_ret]
  · simp (config := { maxSteps := 1000000 }) (disch := omega) only [push_cast, ↓reduceIte, Nat.reduceEqDiff, Nat.reduceAdd, Nat.reduceLT, Nat.reduceLeDiff, Nat.reduceBEq, Nat.reduceMul, Nat.reduceSub, Int.reduceToNat, Int.reduceEq, Int.reduceLT, Int.reduceLE, Int.reduceNeg, Int.reduceAdd, Int.reduceSub, Int.reduceMul, Try.f43, kr43, ty3, ty28, sA, sB, cX, finR_ret, h1]
theorem pr0_ok : CallOK E0.P pr0 := by
  intro f ts r h
  unfold pr0 at h
  split at h
  · rename_i e; subst e; exact clone_ok h
  · simp at h
theorem c_Clone (b : Bool) (cap : Option Nat) (xs : List Int) (h : (xs.length : Int) * 8 ≤ 140737488355328) : CALL 43 [SL b cap xs.length (ints xs)] = some (.sl 0 0 xs.length 1 none, [ints xs]) :=
  lim_pr (by show (if _ then _ else _) = _; rw [if_pos rfl]; exact cloneR_of 1 8 b cap _ _ (by rw [ints_len]; omega) (by omega))
/-- Captured values that are only read. -/
def Shut (l : List T) : Prop := ∀ x ∈ l, (∃ q o, x = .rb q o) ∨ (∃ p q o, x = .rp p q o) ∨ ∃ c, x = .c c
theorem shut_snap (S : St) : ∀ {l : List T}, Shut l → mapO (snapP S) l = some l
  | [], _ => rfl
  | x :: l, h => by
    have h1 : snapP S x = some x := by rcases h x (by simp) with ⟨q, o, rfl⟩ | ⟨p, q, o, rfl⟩ | ⟨c, rfl⟩ <;> rfl
    simp only [mapO, h1, Option.bind_some, shut_snap S (l := l) fun y hy => h y (by simp [hy]), Option.map_some]
theorem shut_foc (S : St) (d : Bool) (F : Foc) : ∀ {l : List T}, Shut l → focPs S d l F = some (l, F)
  | [], _ => rfl
  | x :: l, h => by
    have h1 : focP S d F x = some (x, F) := by rcases h x (by simp) with ⟨q, o, rfl⟩ | ⟨p, q, o, rfl⟩ | ⟨c, rfl⟩ <;> rfl
    simp only [focPs, h1, Option.bind_some, shut_foc S d F (l := l) fun y hy => h y (by simp [hy]), Option.map_some]
theorem map_nrm (l : List T) : l.map nrm = l := by rw [nrm_id, List.map_id]
theorem shut_nil : Shut [] := fun x h => by simp at h
theorem shut_rb (q : List U) (o : Nat) : Shut [.rb q o] := fun x h => by simp at h; subst h; exact .inl ⟨_, _, rfl⟩
theorem shut_rb2 (q q' : List U) (o o' : Nat) : Shut [.rb q o, .rb q' o'] := fun x h => by simp at h; rcases h with rfl | rfl <;> exact .inl ⟨_, _, rfl⟩
/-! Maps of bools that hold nothing but true. -/
def okB (es : List (Value × C × Nat)) : Prop := ∀ e ∈ es, (∃ i, e.1 = .int .i64 i) ∧ e.2.1 = .v (.bool true)
def keyOf : Value → Int
  | .int _ i => i
  | _ => 0
def hasB (es : List (Value × C × Nat)) (x : Int) : Bool := es.any fun e => decide (keyOf e.1 = x)
def idxB : List (Value × C × Nat) → Int → Nat → Option Nat
  | [], _, _ => none
  | e :: r, x, i => if x = keyOf e.1 then some i else idxB r x (i + 1)
theorem keyB : ∀ {es : List (Value × C × Nat)}, okB es → ∀ (x : Int) (i : Nat), keyIx (.int .i64 x) es i = some (idxB es x i)
  | [], _, x, i => rfl
  | (k, c, n) :: r, h, x, i => by
    obtain ⟨⟨j, e1⟩, _⟩ := h (k, c, n) (by simp)
    simp only at e1
    subst e1
    simp only [keyIx, idxB, keyOf, if_true, keyB (es := r) (fun e he => h e (by simp [he]))]
    by_cases hx : x = j
    · simp [hx]
    · simp [hx]
theorem idxB_get : ∀ (es : List (Value × C × Nat)) (x : Int) (i : Nat), match idxB es x i with | some j => i ≤ j ∧ ∃ e, es[j - i]? = some e ∧ keyOf e.1 = x | none => hasB es x = false
  | [], x, i => by simp [idxB, hasB]
  | e :: r, x, i => by
    simp only [idxB]
    by_cases h : x = keyOf e.1
    · rw [if_pos h]; exact ⟨Nat.le_refl _, e, by simp, h.symm⟩
    · rw [if_neg h]
      have ih := idxB_get r x (i + 1)
      cases hj : idxB r x (i + 1) with
      | none => rw [hj] at ih; simp only [hasB, List.any_cons] at ih ⊢; rw [ih, Bool.or_false, decide_eq_false_iff_not]; exact fun q => h q.symm
      | some j =>
        rw [hj] at ih
        obtain ⟨h1, e', h2, h3⟩ := ih
        refine ⟨by omega, e', ?_, h3⟩
        rw [show j - i = (j - (i + 1)) + 1 by omega]; simpa using h2
theorem hasB_mem {es : List (Value × C × Nat)} {e : Value × C × Nat} (h : e ∈ es) : hasB es (keyOf e.1) = true := List.any_eq_true.2 ⟨e, h, by simp⟩
theorem valB {es : List (Value × C × Nat)} (h : okB es) (x : Int) : ((((idxB es x 0).bind (es[·]?)).map (·.2.1)).getD (.v (.bool false)) : C) = .v (.bool (hasB es x)) := by
  have := idxB_get es x 0
  cases hj : idxB es x 0 with
  | none => rw [hj] at this; simp only at this; rw [this]; rfl
  | some j =>
    rw [hj] at this
    obtain ⟨_, e, h1, h2⟩ := this
    simp only [Nat.sub_zero] at h1
    have hm := List.mem_of_getElem? h1
    simp only [Option.bind_some, h1, Option.map_some, Option.getD_some, (h e hm).2]
    rw [← h2, hasB_mem hm]
def insB (s : List (Value × C × Nat) × Nat) (x : Int) : List (Value × C × Nat) × Nat := putE s.1 s.2 (.int .i64 x) (.v (.bool true)) (idxB s.1 x 0)
theorem insB_ok {s : List (Value × C × Nat) × Nat} (h : okB s.1) (x : Int) : okB (insB s x).1 ∧ ∀ y, hasB (insB s x).1 y = (hasB s.1 y || decide (x = y)) := by
  have := idxB_get s.1 x 0
  unfold insB
  cases hj : idxB s.1 x 0 with
  | none =>
    simp only [putE]
    refine ⟨fun e he => ?_, fun y => ?_⟩
    · rcases List.mem_append.1 he with he | he
      · exact h e he
      · simp at he; subst he; exact ⟨⟨x, rfl⟩, rfl⟩
    · simp only [hasB, List.any_append, List.any_cons, List.any_nil, Bool.or_false]; rfl
  | some j =>
    rw [hj] at this
    obtain ⟨_, e, h1, h2⟩ := this
    simp only [Nat.sub_zero] at h1
    have hm := List.mem_of_getElem? h1
    have same : (s.1.modify j fun y => (y.1, C.v (.bool true), y.2.2)) = s.1 := by
      apply List.ext_getElem?
      intro i
      rw [List.getElem?_modify]
      cases hi : s.1[i]? with
      | none => simp
      | some z =>
        have hz := (h z (List.mem_of_getElem? hi)).2
        obtain ⟨a, b, c⟩ := z
        simp only at hz
        subst hz
        by_cases hij : j = i <;> simp [hij]
    show okB (s.1.modify j fun y => (y.1, C.v (.bool true), y.2.2)) ∧ ∀ y, hasB (s.1.modify j fun y => (y.1, C.v (.bool true), y.2.2)) y = _
    rw [same]
    refine ⟨h, fun y => ?_⟩
    by_cases hxy : x = y
    · subst hxy; rw [← h2, hasB_mem hm]; simp
    · simp [hxy]
theorem okB_nil : okB [] := fun e h => by simp at h
def insAll (s : List (Value × C × Nat) × Nat) (r : List Int) : List (Value × C × Nat) × Nat := r.foldl insB s
theorem insAll_ok : ∀ (r : List Int) {s : List (Value × C × Nat) × Nat}, okB s.1 → okB (insAll s r).1 ∧ ∀ y, hasB (insAll s r).1 y = (hasB s.1 y || r.contains y)
  | [], s, h => ⟨h, fun y => by simp [insAll]⟩
  | x :: r, s, h => by
    obtain ⟨h1, h2⟩ := insB_ok h x
    obtain ⟨h3, h4⟩ := insAll_ok r h1
    refine ⟨h3, fun y => ?_⟩
    have h4 := h4 y
    simp only [insAll, List.foldl_cons] at h4 ⊢
    rw [h4, h2, List.contains_cons, Bool.or_assoc]
    congr 2
    by_cases hxy : x = y
    · subst hxy; simp
    · simp only [hxy, decide_false]; exact (beq_eq_false_iff_ne.2 fun q : y = x => hxy q.symm).symm
end Go.Proofs.Ytnbijiopcgfmfaa.Tev
