/- Part 8: TevPr, TevWalk, CFla, CFlb. -/
import Derived.Test.YtnbijiopcgfmfaaGreatP07
import Derived.Laws.Externs
import Derived.Test.YtnbijiopcgfmfaaGreatP05
/- What is taken for told of the library, and words that all contracts share. -/
namespace Go.Proofs.YtnbijiopcgfmfaaGreat.Tev
open Go Go.RowKit Go.Proofs Go.Proofs.YtnbijiopcgfmfaaGreat.Q
set_option linter.unusedSectionVars false
set_option maxRecDepth 100000
set_option linter.unusedVariables false
set_option linter.unusedSimpArgs false
theorem maxT_i (k : IntKind) (x y : Int) : maxT (.c (.v (.int k x))) (.c (.v (.int k y))) = some (.c (.v (.int k (mx x y)))) := rfl
theorem minT_i (k : IntKind) (x y : Int) : minT (.c (.v (.int k x))) (.c (.v (.int k y))) = some (.c (.v (.int k (mn x y)))) := rfl
attribute [push_cast] params ex_skip ex_seq ex_region E0fz E0nd ex_chk0 ex_chk ex_pass_chk chk_one chk_nil ptNe_pt boxed frzA_nil frzA_cons fzCell_sl fzCell_c fzCell_SL fz1_pt fz1_sl fzCells fzTs ex_block ex_loop ex_cond ex_exit ex_leave ex_blk ex_pass_code ex_pass_ops ex_ret exec_ret exec_ret_nil exec_nil ex_ops_nil ex_op ex_guard toL isW opN opW St.ev St.evP get constT cellT put1_val put1_new put1_drop put1_frz put1_ite put1_cond putW_some putW_dst putW_ite putW_none put1_none bin_add bin_lss bin_leq bin_geq bin_gtr bin_eql bin_neq bin_eqlS bin_neqS bin_sub bin_mul bin_quo bin_rem un_neg un_not maxT_i minT_i w0 gtmp List.getElem?_toArray List.getElem?_cons_succ List.getElem?_cons_zero bind_some bind_none map_some map_none bind_ite map_ite guard1_bool guard1_und St.put St.putO fin_ret fin_nor fin_none fin_ite fin_cond retT mapO resT expT expL List.headD_cons List.headD_nil List.tail_cons List.tail_nil v0_some v0_none v0_ite v0_cond v1_some v1_none v1_ite pickT allocT loadT obj storeT fieldAddrT index_s index_tmp index_sl index_pt index_rp extractT builtinT callT_nrm List.map_cons List.map_nil addO splice_succ splice_cons0 splice_nil0 splice_ints setO cond1_tmp cond1_const arrs pick1 List.append_nil List.nil_append List.cons_append Nat.zero_add Nat.add_zero List.length_cons List.length_nil List.all_cons List.all_nil Bool.and_true Bool.true_and Bool.false_and Bool.and_false Bool.or_true Bool.true_or Bool.or_false Bool.false_or Nat.lt_irrefl and_true true_and Bool.false_eq_true List.drop_succ_cons List.drop_zero List.take_succ_cons List.take_zero E0P findLoop firstId ints_at Nat.mul_one Nat.zero_mul focus focK focL focPs look Bool.not_true Bool.not_false endL_none endL_nor endL_ret endL_exit endL_ite loop_lp loop1_some loop1_none loop1_ite prep own1 tipOk frzGs frzG frz1 killG kill1 not_dec not_false_eq_true Option.getD_some codeOf loopIn US_toT index_SL asI_I lenT_SL sliceT_SL shown_SL snapC_SL snapP_SL snap_SL focC_SL focP_SL foc1_SL cellsOf_SL oneT_SL toC_SL expC_SL focC_sl focC_mp focC_c focC_tmp focC_rp focC_rb focC_und focC_junk focP_pt focP_sl focP_mp focP_c focP_tmp focP_rp focP_rb focP_junk foc1_agg foc1_tup foc1_fn foc1_pt foc1_sl foc1_mp foc1_c foc1_tmp foc1_rp foc1_rb foc1_und foc1_junk snapC_sl snapC_c snapC_tmp snapC_rp snapC_mp snapC_ms snapP_mp snapP_ms snap_mp snap_ms focC_ms focP_ms foc1_ms lenT_ms cellsOf_ms oneT_ms toT_ms nrm_ms nrmU_ms mapOf snapC_junk snapP_pt snapP_rb snapP_sl snapP_c snapP_tmp snapP_rp snapP_junk snap_agg snap_fn snap_pt snap_rb snap_sl snap_c snap_tmp snap_rp snap_junk lenT_str lenT_s lenT_tmp lenT_sl lenT_mp sliceT_s sliceT_tmp sliceT_sl shown_s shown_tmp shown_sl cellsOf_agg cellsOf_c cellsOf_tmp cellsOf_sl cellsOf_pt cellsOf_mp cellsOf_fn oneT_c oneT_tmp oneT_sl oneT_pt oneT_mp oneT_fn toC_c toC_sl expC_sl expC_nil expC_v expC_s expA_agg expA_c expA_sl expA_SL toT_c toT_junk toT_tmp toT_rp liftC_sl liftC_c liftA_agg liftA_sl liftA_c lift_tup lift_agg lift_sl lift_c nilT_pt nilT_rp nilT_rb nrm_s nrm_tmp nrm_SL nrmU_s nrmU_tmp nrmU_US nrm_v nrmU_v nrm_agg nrm_fn nrm_rb nrm_rp nrm_junk nrmU_junk nrmU_rp range_1 range_2 range_3 range_4 range_5 range_6 if_le eq_self ints_len ints_snoc ints_append ints_1 ints_0 List.contains_nil List.contains_cons rowAt_1 rowAt_2 rowAt_3 rowAt_4 rowAt_5 rowAt_ints rowAt_ints2 rowAt_nil rowAt_all List.set_cons_succ List.set_cons_zero buildT buildSliceT fill_nil0 fill_nil fill_cons Pl.at toCs List.replicate List.flatten_cons List.flatten_nil appendT app1 sliceO sliceBnd lowB boundI fieldT partT makeFuncT makeMapT lookupT mapUpdateT List.size_toArray frOk List.length_append min_11 min_21 min_01 decide_true decide_false natc_0 natc_1 natc_2 natc_3 natc_4 natc_5 natc_6 natc_7 natc_8 natc_9 natc_10 not_true_eq_false false_and and_false Int.natCast_nonneg Int.toNat_natCast i64_wrap decide_eq_true_eq cond_true cond_false
/-- slices.Clone, at elements of sz cells, by bytes. -/
def cloneR (sz by_ : Nat) : List T → Option R
  | [.c (.s _ n l)] => if l.length = n * sz ∧ n * by_ ≤ 140737488355328 then some (.sl 0 0 n sz none, [l]) else none
  | [.tmp _ n l] => if l.length = n * sz ∧ n * by_ ≤ 140737488355328 then some (.sl 0 0 n sz none, [l]) else none
  | _ => none
theorem cloneR_SL {sz by_ : Nat} {ts : List T} {r : R} (h : cloneR sz by_ ts = some r) : ∃ b cap n l, ts = [SL b cap n l] ∧ l.length = n * sz ∧ n * by_ ≤ 140737488355328 ∧ r = (.sl 0 0 n sz none, [l]) := by
  unfold cloneR at h
  split at h
  · split at h
    · rename_i hc; obtain rfl := Option.some.inj h; exact ⟨true, _, _, _, rfl, hc.1, hc.2, rfl⟩
    · simp at h
  · split at h
    · rename_i hc; obtain rfl := Option.some.inj h; exact ⟨false, _, _, _, rfl, hc.1, hc.2, rfl⟩
    · simp at h
  · simp at h
theorem cloneR_of (sz by_ : Nat) (b : Bool) (cap : Option Nat) (n : Nat) (l : List C) (h1 : l.length = n * sz) (h2 : n * by_ ≤ 140737488355328) : cloneR sz by_ [SL b cap n l] = some (.sl 0 0 n sz none, [l]) := by
  cases b <;> exact if_pos ⟨h1, h2⟩
/-! math/bits.Add64 and Sub64 have no body: the model runs them at once. -/
def addN (x y c : Int) : Nat := x.toNat + y.toNat + c.toNat
def addR : List T → Option R
  | [.c (.v (.int .u64 x)), .c (.v (.int .u64 y)), .c (.v (.int .u64 c))] => if c = 0 ∨ c = 1 then some (.tup [.c (.v (.int .u64 ((addN x y c % 18446744073709551616 : Nat) : Int))), .c (.v (.int .u64 ((addN x y c / 18446744073709551616 : Nat) : Int)))], []) else none
  | _ => none
def subR : List T → Option R
  | [.c (.v (.int .u64 x)), .c (.v (.int .u64 y)), .c (.v (.int .u64 b))] => if b = 0 ∨ b = 1 then some (.tup [.c (.v (.int .u64 (((x.toNat + 18446744073709551616 - y.toNat - b.toNat) % 18446744073709551616 : Nat) : Int))), .c (.v (.int .u64 ((if x.toNat < y.toNat + b.toNat then 1 else 0 : Nat) : Int)))], []) else none
  | _ => none
noncomputable def pr0 : FuncId → List T → Option R := fun f xs => if f = 40 then cloneR 1 8 xs else if f = 116 then addR xs else if f = 117 then subR xs else none
noncomputable abbrev CALL := (lim E0 pr0).call
theorem mixed : E0.P.follows .mixedOrders = true := by kernel_rfl
theorem clone_ok {r : R} {ts : List T} (h : cloneR 1 8 ts = some r) : (∃ fn, E0.P.funcs[40]? = some fn ∧ (fn.name == "runtime.NumGoroutine") = false ∧ fn.body.isNone = false) ∧
    ∀ (w : World) (F : Nat → Prop) (us : List Value), (∀ b, F b → b < w.heap.size) → RTs ⟨w, F, w.heap.size, fun _ => none⟩ ts us →
      Calls E0.P 40 us.toArray w fun e w' => ∃ v, e = .returned v ∧ Below w.heap.size w w' ∧ ResOK F w w' r.1 r.2 v := by
  obtain ⟨b, cap, n, l, rfl, h1, h2, rfl⟩ := cloneR_SL h
  have hb : Tryz.f40.body = some (.seq (sA (codeOf Tryz.f40)) (.seq (.seq (.region 1 #[opAt 0 (sA (sA (sB (codeOf Tryz.f40)))), opAt 1 (sA (sA (sB (codeOf Tryz.f40))))] false) (.cond (.tmp 4) (cX (sB (sA (sB (codeOf Tryz.f40))))) .skip)) (sB (sB (codeOf Tryz.f40))))) := by kernel_rfl
  refine nil_calls mixed (t := 22) (t2 := 22) (s := 0) (d1 := 3) (d2 := 4) (k := n) (l := l) fn40 (by kernel_rfl) hb (by kernel_rfl) (by kernel_rfl) (by kernel_rfl) (by kernel_rfl) (by kernel_rfl) (by kernel_rfl) (e := 3) (by kernel_rfl)
    (Nat.le_of_ble_eq_true rfl) (Nat.le_of_ble_eq_true rfl) (Nat.le_of_ble_eq_true rfl) (by kernel_rfl) (by kernel_rfl) (by kernel_rfl) (by kernel_rfl) (by kernel_rfl) (by kernel_rfl) ⟨b, cap, rfl⟩ (S1 := ⟨[(2, .c (.s (some 0) 0 [])), (0, SL b cap n l)], [], 0⟩) ?_ ?_ ?_ ?_
  · rw [← exec_te]
    simp (config := { maxSteps := 1000000 }) (disch := omega) only [push_cast, ↓reduceIte, Nat.reduceEqDiff, Nat.reduceAdd, Nat.reduceLT, Nat.reduceLeDiff, Nat.reduceBEq, Nat.reduceMul, Nat.reduceSub, Int.reduceToNat, Int.reduceEq, Int.reduceLT, Int.reduceLE, Int.reduceNeg, Int.reduceAdd, Int.reduceSub, Int.reduceMul, Tryz.f40, kr40, ty3, ty22, sA]
  · simp (config := { maxSteps := 1000000 }) (disch := omega) only [push_cast, ↓reduceIte, Nat.reduceEqDiff, Nat.reduceAdd, Nat.reduceLT, Nat.reduceLeDiff, Nat.reduceBEq, Nat.reduceMul, Nat.reduceSub, Int.reduceToNat, Int.reduceEq, Int.reduceLT, Int.reduceLE, Int.reduceNeg, Int.reduceAdd, Int.reduceSub, Int.reduceMul]
  · rintro rfl rfl
    simp (config := { maxSteps := 1000000 }) (disch := omega) only [push_cast, ↓reduceIte, Nat.reduceEqDiff, Nat.reduceAdd, Nat.reduceLT, Nat.reduceLeDiff, Nat.reduceBEq, Nat.reduceMul, Nat.reduceSub, Int.reduceToNat, Int.reduceEq, Int.reduceLT, Int.reduceLE, Int.reduceNeg, Int.reduceAdd, Int.reduceSub, Int.reduceMul, Tryz.f40, kr40, ty3, ty22, sA, sB, cX, finR_ret]
  · simp (config := { maxSteps := 1000000 }) (disch := omega) only [push_cast, ↓reduceIte, Nat.reduceEqDiff, Nat.reduceAdd, Nat.reduceLT, Nat.reduceLeDiff, Nat.reduceBEq, Nat.reduceMul, Nat.reduceSub, Int.reduceToNat, Int.reduceEq, Int.reduceLT, Int.reduceLE, Int.reduceNeg, Int.reduceAdd, Int.reduceSub, Int.reduceMul, Tryz.f40, kr40, ty3, ty22, sA, sB, cX, finR_ret, h1]
theorem add_find : Extern.find Tryz.f116 = (Extern.MathBitsCarry.rows[0]?).map (·.2) := by kernel_rfl
theorem sub_find : Extern.find Tryz.f117 = (Extern.MathBitsCarry.rows[1]?).map (·.2) := by kernel_rfl
theorem three_vals {K : Ctx} {x y z : Value} {us : List Value} (h : RTs K [.c (.v x), .c (.v y), .c (.v z)] us) : us = [x, y, z] := by
  simp only [RTs, RT, RC] at h
  obtain ⟨u1, l1, rfl, ⟨rfl, _⟩, u2, l2, rfl, ⟨rfl, _⟩, u3, l3, rfl, ⟨rfl, _⟩, rfl⟩ := h
  rfl
theorem rt_two (K : Ctx) (n : Nat) (x y : Value) (hx : flat x = true) (hy : flat y = true) : RT K (lift n (.tup [.c (.v x), .c (.v y)])) (.tuple #[x, y]) := by
  simp only [lift, liftA, liftC, List.map_cons, List.map_nil, RT, RTs, RC]
  exact ⟨_, rfl, _, _, rfl, ⟨rfl, hx⟩, _, _, rfl, ⟨rfl, hy⟩, rfl⟩
theorem add_ok {ts : List T} {r : R} (h : addR ts = some r) : RunsR E0.P 116 ts r := by
  unfold addR at h
  split at h
  · rename_i x y c
    split at h
    · rename_i hc
      obtain rfl := Option.some.inj h
      refine ⟨⟨_, Tryz.func116, by kernel_rfl⟩, rfl, fun w F us hr => ?_⟩
      obtain rfl := three_vals hr
      refine ⟨_, ?_, fun K n => rt_two K n _ _ rfl rfl⟩
      rw [E0P, run_callFunc_extern Tryz.func116 (by kernel_rfl) (by kernel_rfl) (by kernel_rfl) add_find]
      rcases hc with rfl | rfl <;> rfl
    · simp at h
  · simp at h
theorem sub_ok {ts : List T} {r : R} (h : subR ts = some r) : RunsR E0.P 117 ts r := by
  unfold subR at h
  split at h
  · rename_i x y c
    split at h
    · rename_i hc
      obtain rfl := Option.some.inj h
      refine ⟨⟨_, Tryz.func117, by kernel_rfl⟩, rfl, fun w F us hr => ?_⟩
      obtain rfl := three_vals hr
      refine ⟨_, ?_, fun K n => rt_two K n _ _ rfl rfl⟩
      rw [E0P, run_callFunc_extern Tryz.func117 (by kernel_rfl) (by kernel_rfl) (by kernel_rfl) sub_find]
      rcases hc with rfl | rfl <;> rfl
    · simp at h
  · simp at h
theorem pr0_ok : CallOK E0.P pr0 := by
  intro f ts r h
  unfold pr0 at h
  split at h
  · rename_i e; subst e; exact .inl (clone_ok h)
  split at h
  · rename_i e; subst e; exact .inr (add_ok h)
  split at h
  · rename_i e; subst e; exact .inr (sub_ok h)
  · simp at h
theorem c_Add64 (x y c : Int) (h : c = 0 ∨ c = 1) : CALL 116 [.c (.v (.int .u64 x)), .c (.v (.int .u64 y)), .c (.v (.int .u64 c))] = some (.tup [.c (.v (.int .u64 ((addN x y c % 18446744073709551616 : Nat) : Int))), .c (.v (.int .u64 ((addN x y c / 18446744073709551616 : Nat) : Int)))], []) :=
  lim_pr (by show (if _ then _ else _) = _; rw [if_neg (by decide), if_pos rfl]; exact if_pos h)
theorem c_Sub64 (x y b : Int) (h : b = 0 ∨ b = 1) : ∃ d b', (b' = 0 ∨ b' = 1) ∧ CALL 117 [.c (.v (.int .u64 x)), .c (.v (.int .u64 y)), .c (.v (.int .u64 b))] = some (.tup [.c (.v (.int .u64 d)), .c (.v (.int .u64 b'))], []) :=
  ⟨_, ((if x.toNat < y.toNat + b.toNat then 1 else 0 : Nat) : Int), by split <;> simp, lim_pr (by show (if _ then _ else _) = _; rw [if_neg (by decide), if_neg (by decide), if_pos rfl]; exact if_pos h)⟩
theorem c_Clone (b : Bool) (cap : Option Nat) (xs : List Int) (h : (xs.length : Int) * 8 ≤ 140737488355328) : CALL 40 [SL b cap xs.length (ints xs)] = some (.sl 0 0 xs.length 1 none, [ints xs]) :=
  lim_pr (by show (if _ then _ else _) = _; rw [if_pos rfl]; exact cloneR_of 1 8 b cap _ _ (by rw [ints_len]; omega) (by omega))
/-- Captured values that are only read. -/
def Shut (l : List T) : Prop := ∀ x ∈ l, (∃ q o, x = .rb q o) ∨ (∃ p q o, x = .rp p q o) ∨ ∃ c, x = .c c
theorem shut_snap (S : St) : ∀ {l : List T}, Shut l → mapO (snapP S) l = some l
  | [], _ => rfl
  | x :: l, h => by
    have h1 : snapP S x = some x := by rcases h x (by simp) with ⟨q, o, rfl⟩ | ⟨p, q, o, rfl⟩ | ⟨c, rfl⟩ <;> rfl
    simp only [mapO, h1, Option.bind_some, shut_snap S (l := l) fun y hy => h y (by simp [hy]), Option.map_some]
theorem shut_foc (S : St) (d : Bool) (F : Foc) : ∀ {l : List T}, Shut l → focPs S d l F = some (l, F)
  | [], _ => rfl
  | x :: l, h => by
    have h1 : focP S d F x = some (x, F) := by rcases h x (by simp) with ⟨q, o, rfl⟩ | ⟨p, q, o, rfl⟩ | ⟨c, rfl⟩ <;> rfl
    simp only [focPs, h1, Option.bind_some, shut_foc S d F (l := l) fun y hy => h y (by simp [hy]), Option.map_some]
theorem map_nrm (l : List T) : l.map nrm = l := by rw [nrm_id, List.map_id]
theorem shut_nil : Shut [] := fun x h => by simp at h
theorem shut_rb (q : List U) (o : Nat) : Shut [.rb q o] := fun x h => by simp at h; subst h; exact .inl ⟨_, _, rfl⟩
theorem shut_rb2 (q q' : List U) (o o' : Nat) : Shut [.rb q o, .rb q' o'] := fun x h => by simp at h; rcases h with rfl | rfl <;> exact .inl ⟨_, _, rfl⟩
/-! Maps of bools that hold nothing but true. -/
def okB (es : List (Value × C × Nat)) : Prop := ∀ e ∈ es, (∃ i, e.1 = .int .i64 i) ∧ e.2.1 = .v (.bool true)
def keyOf : Value → Int
  | .int _ i => i
  | _ => 0
def hasB (es : List (Value × C × Nat)) (x : Int) : Bool := es.any fun e => decide (keyOf e.1 = x)
def idxB : List (Value × C × Nat) → Int → Nat → Option Nat
  | [], _, _ => none
  | e :: r, x, i => if x = keyOf e.1 then some i else idxB r x (i + 1)
theorem keyB : ∀ {es : List (Value × C × Nat)}, okB es → ∀ (x : Int) (i : Nat), keyIx (.int .i64 x) es i = some (idxB es x i)
  | [], _, x, i => rfl
  | (k, c, n) :: r, h, x, i => by
    obtain ⟨⟨j, e1⟩, _⟩ := h (k, c, n) (by simp)
    simp only at e1
    subst e1
    simp only [keyIx, idxB, keyOf, if_true, keyB (es := r) (fun e he => h e (by simp [he]))]
    by_cases hx : x = j
    · simp [hx]
    · simp [hx]
theorem idxB_get : ∀ (es : List (Value × C × Nat)) (x : Int) (i : Nat), match idxB es x i with | some j => i ≤ j ∧ ∃ e, es[j - i]? = some e ∧ keyOf e.1 = x | none => hasB es x = false
  | [], x, i => by simp [idxB, hasB]
  | e :: r, x, i => by
    simp only [idxB]
    by_cases h : x = keyOf e.1
    · rw [if_pos h]; exact ⟨Nat.le_refl _, e, by simp, h.symm⟩
    · rw [if_neg h]
      have ih := idxB_get r x (i + 1)
      cases hj : idxB r x (i + 1) with
      | none => rw [hj] at ih; simp only [hasB, List.any_cons] at ih ⊢; rw [ih, Bool.or_false, decide_eq_false_iff_not]; exact fun q => h q.symm
      | some j =>
        rw [hj] at ih
        obtain ⟨h1, e', h2, h3⟩ := ih
        refine ⟨by omega, e', ?_, h3⟩
        rw [show j - i = (j - (i + 1)) + 1 by omega]; simpa using h2
theorem hasB_mem {es : List (Value × C × Nat)} {e : Value × C × Nat} (h : e ∈ es) : hasB es (keyOf e.1) = true := List.any_eq_true.2 ⟨e, h, by simp⟩
theorem valB {es : List (Value × C × Nat)} (h : okB es) (x : Int) : ((((idxB es x 0).bind (es[·]?)).map (·.2.1)).getD (.v (.bool false)) : C) = .v (.bool (hasB es x)) := by
  have := idxB_get es x 0
  cases hj : idxB es x 0 with
  | none => rw [hj] at this; simp only at this; rw [this]; rfl
  | some j =>
    rw [hj] at this
    obtain ⟨_, e, h1, h2⟩ := this
    simp only [Nat.sub_zero] at h1
    have hm := List.mem_of_getElem? h1
    simp only [Option.bind_some, h1, Option.map_some, Option.getD_some, (h e hm).2]
    rw [← h2, hasB_mem hm]
def insB (s : List (Value × C × Nat) × Nat) (x : Int) : List (Value × C × Nat) × Nat := putE s.1 s.2 (.int .i64 x) (.v (.bool true)) (idxB s.1 x 0)
theorem insB_ok {s : List (Value × C × Nat) × Nat} (h : okB s.1) (x : Int) : okB (insB s x).1 ∧ ∀ y, hasB (insB s x).1 y = (hasB s.1 y || decide (x = y)) := by
  have := idxB_get s.1 x 0
  unfold insB
  cases hj : idxB s.1 x 0 with
  | none =>
    simp only [putE]
    refine ⟨fun e he => ?_, fun y => ?_⟩
    · rcases List.mem_append.1 he with he | he
      · exact h e he
      · simp at he; subst he; exact ⟨⟨x, rfl⟩, rfl⟩
    · simp only [hasB, List.any_append, List.any_cons, List.any_nil, Bool.or_false]; rfl
  | some j =>
    rw [hj] at this
    obtain ⟨_, e, h1, h2⟩ := this
    simp only [Nat.sub_zero] at h1
    have hm := List.mem_of_getElem? h1
    have same : (s.1.modify j fun y => (y.1, C.v (.bool true), y.2.2)) = s.1 := by
      apply List.ext_getElem?
      intro i
      rw [List.getElem?_modify]
      cases hi : s.1[i]? with
      | none => simp
      | some z =>
        have hz := (h z (List.mem_of_getElem? hi)).2
        obtain ⟨a, b, c⟩ := z
        simp only at hz
        subst hz
        by_cases hij : j = i <;> simp [hij]
    show okB (s.1.modify j fun y => (y.1, C.v (.bool true), y.2.2)) ∧ ∀ y, hasB (s.1.modify j fun y => (y.1, C.v (.bool true), y.2.2)) y = _
    rw [same]
    refine ⟨h, fun y => ?_⟩
    by_cases hxy : x = y
    · subst hxy; rw [← h2, hasB_mem hm]; simp
    · simp [hxy]
theorem okB_nil : okB [] := fun e h => by simp at h
def insAll (s : List (Value × C × Nat) × Nat) (r : List Int) : List (Value × C × Nat) × Nat := r.foldl insB s
theorem insAll_ok : ∀ (r : List Int) {s : List (Value × C × Nat) × Nat}, okB s.1 → okB (insAll s r).1 ∧ ∀ y, hasB (insAll s r).1 y = (hasB s.1 y || r.contains y)
  | [], s, h => ⟨h, fun y => by simp [insAll]⟩
  | x :: r, s, h => by
    obtain ⟨h1, h2⟩ := insB_ok h x
    obtain ⟨h3, h4⟩ := insAll_ok r h1
    refine ⟨h3, fun y => ?_⟩
    have h4 := h4 y
    simp only [insAll, List.foldl_cons] at h4 ⊢
    rw [h4, h2, List.contains_cons, Bool.or_assoc]
    congr 2
    by_cases hxy : x = y
    · subst hxy; simp
    · simp only [hxy, decide_false]; exact (beq_eq_false_iff_ne.2 fun q : y = x => hxy q.symm).symm
end Go.Proofs.YtnbijiopcgfmfaaGreat.Tev
/- Functions walked by hand, piece by piece. -/
namespace Go.Proofs.YtnbijiopcgfmfaaGreat.Tev
open Go Go.RowKit Go.Proofs.YtnbijiopcgfmfaaGreat.Q
set_option linter.unusedSectionVars false
set_option linter.unusedVariables false
set_option linter.unusedSimpArgs false
/-- One piece of code after the other. -/
def WalkL (P : Program) (m : Nat) (w0 : World) (F0 : Nat → Prop) : List Code → St → (Ex → St → Prop) → Prop
  | [], S, Q => Q Ex.nor S
  | c :: l, S, Q => ∀ (K : Ctx) (a : Act), Inv m w0 F0 K S a → ∀ R : Exit → Act → World → Prop, (∀ (e : Ex) (S' : St) (K' : Ctx) (a' : Act), Inv m w0 F0 K' S' a' → (match e with | Ex.nor => WalkL P m w0 F0 l S' Q | e => Q e S') → R (Ex.conv e) a' K'.w) → c.wp P R a K.w
/-- One operation after the other. -/
def WalkO (P : Program) (m : Nat) (w0 : World) (F0 : Nat → Prop) : List Oper → St → (St → Prop) → Prop
  | [], S, Q => Q S
  | o :: l, S, Q => o.guard = none ∧ ∀ K a, Inv m w0 F0 K S a → ∀ (next : Act → World → Prop) (R : Exit → Act → World → Prop), (∀ S' K' a', Inv m w0 F0 K' S' a' → WalkO P m w0 F0 l S' Q → next a' K'.w) → o.wp P a K.w next R
section
variable {P : Program} {m : Nat} {w0 : World} {F0 : Nat → Prop} {l : List Code} {S : St} {Q : Ex → St → Prop}
theorem walk_seq {x y : Code} (h : WalkL P m w0 F0 (x :: y :: l) S Q) : WalkL P m w0 F0 (.seq x y :: l) S Q := by
  intro K a hi R hR
  refine wp_seq (h K a hi _ fun e S' K' a' hi' hq => ?_)
  cases e with
  | nor => exact hq K' a' hi' R hR
  | exit id => exact hR (.exit id) S' K' a' hi' hq
  | ret => exact hR .ret S' K' a' hi' hq
theorem walk_te {E : Env} {O : Ora} (hm : E.P.follows .mixedOrders = true) (hcl : CallOK E.P O.call) {f : FuncId} {body : Code} (hlp : ∀ w0 F0, LoopOK E m w0 F0 body (O.loop f)) (hnd : nodupB ((loopsOf body).map firstId) = true)
    {c : Code} (hs : ∀ b ∈ loopsOf c, b ∈ loopsOf body) (hok : okCode m c = true) {e : Ex} {S' : St} (ht : exec E O f .nor [.code c] S = some (e, S')) (hq : match (generalizing := false) e with | .nor => WalkL E.P m w0 F0 l S' Q | e => Q e S') : WalkL E.P m w0 F0 (c :: l) S Q := by
  intro K a hi R hR
  rw [exec_te] at ht
  exact te_sound hm hcl (hlp w0 F0) hnd c hs (okCode_mono hok) S e S' ht K a hi R fun K' a' hi' => hR e S' K' a' hi' hq
theorem walk_ret (hq : Q .ret S) : WalkL P m w0 F0 (.ret :: l) S Q := fun K a hi R hR => wp_ret (hR .ret S K a hi hq)
theorem walk_region {id : Nat} {ops : Array Oper} (h : WalkO P m w0 F0 ops.toList S fun S' => WalkL P m w0 F0 l S' Q) : WalkL P m w0 F0 (.region id ops false :: l) S Q := by
  intro K a hi R hR
  refine wp_region_list ?_
  have key : ∀ (os : List Oper) (S : St) (K : Ctx) (a : Act), Inv m w0 F0 K S a → WalkO P m w0 F0 os S (fun S' => WalkL P m w0 F0 l S' Q) → wpList P ops R os a K.w := by
    intro os
    induction os with
    | nil => intro S K a hi h; exact hR .nor S K a hi h
    | cons o os ih =>
      intro S K a hi h
      obtain ⟨hg, h⟩ := h
      unfold wpList
      rw [if_pos (by simp [Region.wanted, hg])]
      exact .inl (h K a hi _ _ fun S' K' a' hi' hw => ih S' K' a' hi' hw)
  exact key _ S K a hi h
theorem walko_op {E : Env} {cl : FuncId → List T → Option R} (hcl : CallOK E.P cl) {o : Oper} {os : List Oper} {Q : St → Prop} (hg : o.guard = none) (hd : ∀ t, o.dst = some t → t < m) {S' : St} (ho : opA E cl false S o = some S') (h : WalkO E.P m w0 F0 os S' Q) : WalkO E.P m w0 F0 (o :: os) S Q :=
  ⟨hg, fun K a hi next R hn => opA_sound hcl hi hd ho fun K' a' hi' => hn S' K' a' hi' h⟩
/-- Some objects are let go. -/
theorem Inv.kills {K : Ctx} {a : Act} (h : Inv m w0 F0 K S a) {os : List (Nat × Ob)} (ho : ∀ o, obj os o = obj S.o o ∨ (obj os o = some .dead ∧ obj S.o o ≠ none)) : Inv m w0 F0 K { S with o := os } a := { h with
  oi := {
    objs := fun o x s h1 h2 => by
      rcases ho o with h3 | ⟨h3, _⟩
      · have h1' : obj os o = some x := h1
        rw [h3] at h1'; exact h.oi.objs o x s h1' h2
      · have h1' : obj os o = some x := h1
        rw [h3] at h1'; obtain rfl := Option.some.inj h1'; simp only [RO]
    dom := fun o x h1 => by
      have h1' : obj os o = some x := h1
      rcases ho o with h3 | ⟨h3, h4⟩
      · rw [h3] at h1'; exact h.oi.dom o x h1'
      · obtain ⟨y, hy⟩ := Option.ne_none_iff_exists'.1 h4
        exact h.oi.dom o y hy
    alias := fun o o' x x' b sh sh' h1 h2 h3 h4 => by
      have h1' : obj os o = some x := h1
      have h2' : obj os o' = some x' := h2
      rcases ho o with h5 | ⟨h5, _⟩
      · rcases ho o' with h6 | ⟨h6, _⟩
        · rw [h5] at h1'; rw [h6] at h2'
          exact h.oi.alias o o' x x' b sh sh' h1' h2' h3 h4
        · rw [h6] at h2'; obtain rfl := Option.some.inj h2'
          right; cases x <;> simp [Alias]
      · rw [h5] at h1'; obtain rfl := Option.some.inj h1'
        right; cases x' <;> simp [Alias] }
  grp := fun o l g e h1 => by
    have h1' : obj os o = some (.arr l g e) := h1
    rcases ho o with h3 | ⟨h3, _⟩
    · rw [h3] at h1'; exact h.grp o l g e h1'
    · rw [h3] at h1'; simp at h1' }
/-- A call of a function of the program. -/
theorem enter_run {f : FuncId} {fn : Func} (hf1 : P.funcs[f]? = some fn) (hf2 : (fn.name == "runtime.NumGoroutine") = false) (hf3 : fn.body.isNone = false) (a : Act) (args : Array Operand) (ats : Array TypeId) (d : Option Nat) (ty : TypeId) (pos : String) (af : Array Edge) (gg : Option (Nat × Bool)) (w : World) :
    (execOp a.eval ⟨d, .call ⟨.value (.func f), args, ats⟩, ty, pos, af, gg⟩).run P w = .ok (.enter f (args.map a.eval)) w := by
  have e1 : a.eval (.func f) = .func (.func f) #[] #[] := rfl
  simp only [execOp, resolve, e1, Deferred.ofValue, bind, Pure.pure, Sem.bind, invoke, callFunc, program, Sem.run, hf1, hf2, hf3, Bool.false_eq_true, if_false]
  congr 2
  simp
/-- A function whose body has been walked. -/
theorem walk_fun {E : Env} {f : FuncId} {fn : Func} {body : Code} (hf : E.P.funcs[f]? = some fn) (hname : (fn.name == "runtime.NumGoroutine") = false) (hb : fn.body = some body) {xs : List T} {r : R} (hlen : xs.length ≤ fn.ntmps)
    (H : ∀ w F, WalkL E.P fn.ntmps w F [body] ⟨params 0 xs, [], 0⟩ fun e S' => (e = .nor ∨ e = .ret) ∧ retT E.P fn.results.toList fn.resultTypes.toList S' = some r) :
    (∃ fn, E.P.funcs[f]? = some fn ∧ (fn.name == "runtime.NumGoroutine") = false ∧ fn.body.isNone = false) ∧
    ∀ (w : World) (F : Nat → Prop) (us : List Value), (∀ b, F b → b < w.heap.size) → RTs ⟨w, F, w.heap.size, fun _ => none⟩ xs us →
      Calls E.P f us.toArray w fun e w' => ∃ v, e = .returned v ∧ Below w.heap.size w w' ∧ ResOK F w w' r.1 r.2 v := by
  refine ⟨⟨fn, hf, hname, by rw [hb]; rfl⟩, fun w F us hF hr => ?_⟩
  have hul := RTs_length _ _ hr
  have hI : Inv fn.ntmps w F ⟨w, F, w.heap.size, fun _ => none⟩ ⟨params 0 xs, [], 0⟩ { tmps := us.toArray ++ Array.replicate (fn.ntmps - us.toArray.size) undef, defers := [] } := {
    good := ⟨hF, Nat.le_refl _⟩
    base := rfl
    below := Below.refl _ _
    Fin := fun _ h => h
    Fout := fun _ h => .inl h
    size := by simp; omega
    defers := rfl
    tm := fun t => by
      show RT _ (get (params 0 xs) t) _
      rw [params_get]
      simp only [Nat.zero_le, if_true, Nat.sub_zero]
      cases hx : xs[t]? with
      | none => simp only [Option.getD_none, RT]
      | some x =>
        obtain ⟨u, hu, r⟩ := RTs_get _ _ _ _ hr hx
        have hlt : t < us.length := by rcases Nat.lt_or_ge t us.length with h' | h'; exact h'; simp [h'] at hu
        simp only [Option.getD_some, Array.getD_eq_getD_getElem?]
        rw [Array.getElem?_append_left (by simpa using hlt)]
        simp only [List.getElem?_toArray, hu, Option.getD_some]
        exact r
    oi := ⟨fun o x s h => by simp [obj] at h, fun o x h => by simp [obj] at h, fun o o' x x' b sh sh' h => by simp [obj] at h⟩
    fresh := fun _ _ => rfl
    grp := fun o l g e h => by simp [obj] at h }
  refine calls_of_wp hf hb (H w F _ _ hI _ fun e S' K' a' hi hq => ?_)
  have hq : (e = .nor ∨ e = .ret) ∧ retT E.P fn.results.toList fn.resultTypes.toList S' = some r := by cases e <;> exact hq
  obtain ⟨v, hrun, hres⟩ := retT_sound hi hq.2
  rcases hq.1 with rfl | rfl
  · exact ⟨hi.defers, v, hrun, v, rfl, hi.below, hres⟩
  · exact ⟨hi.defers, v, hrun, v, rfl, hi.below, hres⟩
end
/-- A loop of the evaluator without a count of rounds. -/
theorem lim_loopOK {E : Env} {pr : FuncId → List T → Option R} (hm : E.P.follows .mixedOrders = true) (hpr : CallOK E.P pr) {f : FuncId} {fn : Func} {body : Code} (hf : E.P.funcs[f]? = some fn) (hb : fn.body = some body) (hok : okFuncN (E.nd f) fn = true) :
    ∀ w0 F0, LoopOK E fn.ntmps w0 F0 body ((lim E pr).loop f) := by
  intro w0 F0 id S e S' h
  obtain ⟨n, hn⟩ := lim_loop.1 h
  exact ora_loop hm hf hb hok n (fun k _ => ora_sound hm hpr k) w0 F0 id S e S' hn
end Go.Proofs.YtnbijiopcgfmfaaGreat.Tev
/- Shifts and bits; how long a word is. -/
namespace Go.Proofs.YtnbijiopcgfmfaaGreat.Tev
open Go Go.RowKit Go.Proofs Go.Proofs.YtnbijiopcgfmfaaGreat.Q
set_option linter.unusedSectionVars false
set_option maxRecDepth 100000
set_option maxHeartbeats 0
set_option linter.unusedSimpArgs false
set_option linter.unusedVariables false
abbrev U64 (n : Int) : T := .c (.v (.int .u64 n))
def shlK (k : IntKind) (a b : Int) : Int := k.wrap (a * 2 ^ min b.toNat k.bits)
def shrK (k : IntKind) (a b : Int) : Int := a.fdiv (2 ^ min b.toNat k.bits)
def andK (k : IntKind) (a b : Int) : Int := k.wrap (BitVec.ofInt k.bits a &&& BitVec.ofInt k.bits b).toNat
def orK (k : IntKind) (a b : Int) : Int := k.wrap (BitVec.ofInt k.bits a ||| BitVec.ofInt k.bits b).toNat
def xorK (k : IntKind) (a b : Int) : Int := k.wrap (BitVec.ofInt k.bits a ^^^ BitVec.ofInt k.bits b).toNat
section
variable (P : Program) (xt : TypeId) (x y : Operand) (k k' : IntKind) (a b : Int)
theorem bin_shl (h : 0 ≤ b) : bin2 P .shl xt x y (.c (.v (.int k a))) (.c (.v (.int k' b))) = some (.c (.v (.int k (shlK k a b)))) := by
  have : ¬ b < 0 := by omega
  simp [bin2, eqGuard, peel, binOp, Op.shift, this, pure, bind, Sem.bind, ofV, flat, shlK]
theorem bin_shr (h : 0 ≤ b) : bin2 P .shr xt x y (.c (.v (.int k a))) (.c (.v (.int k' b))) = some (.c (.v (.int k (shrK k a b)))) := by
  have : ¬ b < 0 := by omega
  simp [bin2, eqGuard, peel, binOp, Op.shift, this, pure, bind, Sem.bind, ofV, flat, shrK]
theorem bin_and : bin2 P .and xt x y (.c (.v (.int k a))) (.c (.v (.int k b))) = some (.c (.v (.int k (andK k a b)))) := by
  simp [bin2, eqGuard, peel, binOp, Op.intBits, pure, bind, Sem.bind, ofV, flat, andK]
theorem bin_or : bin2 P .or xt x y (.c (.v (.int k a))) (.c (.v (.int k b))) = some (.c (.v (.int k (orK k a b)))) := by
  simp [bin2, eqGuard, peel, binOp, Op.intBits, pure, bind, Sem.bind, ofV, flat, orK]
theorem bin_xor : bin2 P .xor xt x y (.c (.v (.int k a))) (.c (.v (.int k b))) = some (.c (.v (.int k (xorK k a b)))) := by
  simp [bin2, eqGuard, peel, binOp, Op.intBits, pure, bind, Sem.bind, ofV, flat, xorK]
end
theorem conv_int {P : Program} {s d : TypeId} (k0 k' : IntKind) (hs : P.underlying s = some (.int k0)) (hd : P.underlying d = some (.int k')) (k : IntKind) (n : Int) : conv1 P s d (.c (.v (.int k n))) = some (.c (.v (.int k' (k'.wrap n)))) := by
  unfold conv1 convert
  simp [underlying, program, hs, hd, peel, Conv.intToInt, pure, bind, Sem.bind, Sem.run, ofV, flat]
theorem cv_iu (k : IntKind) (n : Int) : conv1 Tryz.prog 3 86 (.c (.v (.int k n))) = some (U64 (IntKind.u64.wrap n)) := conv_int .i64 .u64 (by kernel_rfl) (by kernel_rfl) k n
theorem cv_ui (k : IntKind) (n : Int) : conv1 Tryz.prog 86 3 (.c (.v (.int k n))) = some (I (IntKind.i64.wrap n)) := conv_int .u64 .i64 (by kernel_rfl) (by kernel_rfl) k n
theorem cv_in (k : IntKind) (n : Int) : conv1 Tryz.prog 3 123 (.c (.v (.int k n))) = some (U64 (IntKind.u64.wrap n)) := conv_int .i64 .u64 (by kernel_rfl) (by kernel_rfl) k n
theorem cv_u8 (k : IntKind) (n : Int) : conv1 Tryz.prog 86 5 (.c (.v (.int k n))) = some (.c (.v (.int .u8 (IntKind.u8.wrap n)))) := conv_int .u64 .u8 (by kernel_rfl) (by kernel_rfl) k n
theorem cv_8i (k : IntKind) (n : Int) : conv1 Tryz.prog 5 3 (.c (.v (.int k n))) = some (I (IntKind.i64.wrap n)) := conv_int .u8 .i64 (by kernel_rfl) (by kernel_rfl) k n
/-! The table of lengths. -/
noncomputable abbrev lBody : Code := codeOf Tryz.f118
noncomputable abbrev lB1 : Code := sB lBody
noncomputable abbrev lB2 : Code := sB lB1
noncomputable abbrev lB3 : Code := sB lB2
noncomputable abbrev lB4 : Code := sB lB3
def strOf : Op → ByteArray
  | .index _ (.const (.string s)) _ => s
  | _ => ⟨#[]⟩
noncomputable def tabS : ByteArray := strOf (opAt 3 (sA lB4)).op
theorem tabS_size : tabS.size = 256 := by kernel_rfl
def lenOk (s : ByteArray) (k : Nat) : Bool := match s[k]? with
  | some b => decide (k < 2 ^ b.toNat) && decide (b.toNat ≤ 8) && (decide (k = 0 ∧ b.toNat = 0) || decide (2 ^ (b.toNat - 1) ≤ k ∧ 1 ≤ b.toNat))
  | none => false
theorem tabS_ok : ((List.range 256).all fun k => lenOk tabS k) = true := by kernel_rfl
noncomputable def len8 (k : Int) : Int := match tabS[k.toNat]? with
  | some b => (b.toNat : Int)
  | none => 0
theorem len8_ok {k : Int} (h0 : 0 ≤ k) (h1 : k < 256) : ∃ b, tabS[k.toNat]? = some b ∧ len8 k = (b.toNat : Int) ∧ k < 2 ^ (len8 k).toNat ∧ 0 ≤ len8 k ∧ len8 k ≤ 8 ∧ ((k = 0 ∧ len8 k = 0) ∨ (2 ^ (len8 k - 1).toNat ≤ k ∧ 1 ≤ len8 k)) := by
  have := List.all_eq_true.1 tabS_ok k.toNat (List.mem_range.2 (by omega))
  unfold lenOk at this
  split at this
  · rename_i b hb
    simp only [Bool.and_eq_true, Bool.or_eq_true, decide_eq_true_eq] at this
    obtain ⟨⟨h2, h3⟩, h4⟩ := this
    have e : len8 k = (b.toNat : Int) := by unfold len8; rw [hb]
    refine ⟨b, hb, e, ?_, by omega, by omega, ?_⟩
    · rw [e, Int.toNat_natCast]
      have : ((k.toNat : Nat) : Int) < ((2 ^ b.toNat : Nat) : Int) := Int.ofNat_lt.2 h2
      rw [Int.natCast_pow] at this
      rw [← show ((k.toNat : Nat) : Int) = k by omega]
      exact this
    · rcases h4 with ⟨h5, h6⟩ | ⟨h5, h6⟩
      · exact .inl ⟨by omega, by omega⟩
      · refine .inr ⟨?_, by omega⟩
        rw [e, show ((b.toNat : Int) - 1).toNat = b.toNat - 1 by omega]
        have : ((2 ^ (b.toNat - 1) : Nat) : Int) ≤ ((k.toNat : Nat) : Int) := Int.ofNat_le.2 h5
        rw [Int.natCast_pow] at this
        rw [← show ((k.toNat : Nat) : Int) = k by omega]
        exact this
  · simp at this
theorem index_tab {k : Int} (h0 : 0 ≤ k) (h1 : k < 256) : indexT Tryz.prog 9 (.c (.v (.string tabS))) (.c (.v (.int .u8 k))) = some (.c (.v (.int .u8 (len8 k)))) := by
  obtain ⟨b, hb, e, _⟩ := len8_ok h0 h1
  have hu : Tryz.prog.underlying 9 = some .string := by kernel_rfl
  unfold indexT
  simp only [asI, Option.bind_some, hu, if_pos h0, hb, Option.map_some, e]
theorem u8_bd (n : Int) : 0 ≤ IntKind.u8.wrap n ∧ IntKind.u8.wrap n < 256 := by
  have e : IntKind.u8.wrap n = n % 256 := by simp [IntKind.wrap, IntKind.bits, IntKind.signed]
  rw [e]; omega
noncomputable def lenQ (n : Int) : Int :=
  let n1 := if 4294967296 ≤ n then shrK .u64 n 32 else n
  let n2 := if 65536 ≤ n1 then shrK .u64 n1 16 else n1
  let n3 := if 256 ≤ n2 then shrK .u64 n2 8 else n2
  (if 4294967296 ≤ n then 32 else 0) + (if 65536 ≤ n1 then 16 else 0) + (if 256 ≤ n2 then 8 else 0) + len8 (IntKind.u8.wrap n3)
theorem k_Len64 (n : Int) : CALL 118 [U64 n] = some (I (lenQ n), []) := by
  have w8 : ∀ k, IntKind.i64.wrap (len8 (IntKind.u8.wrap k)) = len8 (IntKind.u8.wrap k) := fun k => by
    obtain ⟨_, _, _, _, h0, h8, _⟩ := len8_ok (u8_bd k).1 (u8_bd k).2
    exact i64_wrap (by omega) (by omega)
  have hi := fun k => index_tab (u8_bd k).1 (u8_bd k).2
  have hb : ∀ k, 0 ≤ len8 (IntKind.u8.wrap k) ∧ len8 (IntKind.u8.wrap k) ≤ 8 := fun k => by
    obtain ⟨_, _, _, _, h0, h8, _⟩ := len8_ok (u8_bd k).1 (u8_bd k).2
    exact ⟨h0, h8⟩
  refine lim_run (fn := Tryz.f118) fn118 rfl body118 (Nat.le_of_ble_eq_true rfl) ok118 ?_
  unfold lenQ
  by_cases c1 : 4294967296 ≤ n
  · by_cases c2 : 65536 ≤ shrK .u64 n 32
    · by_cases c3 : 256 ≤ shrK .u64 (shrK .u64 n 32) 16
      · have hk := hb (shrK .u64 (shrK .u64 (shrK .u64 n 32) 16) 8)
        simp only [if_pos, if_neg, c1, c2, c3, if_true, if_false, not_false_eq_true, Int.zero_add, Int.add_zero]
        simp (config := { maxSteps := 1000000 }) (disch := omega) only [push_cast, ↓reduceIte, Nat.reduceEqDiff, Nat.reduceAdd, Nat.reduceLT, Nat.reduceLeDiff, Nat.reduceBEq, Nat.reduceMul, Nat.reduceSub, Int.reduceToNat, Int.reduceEq, Int.reduceLT, Int.reduceLE, Int.reduceNeg, Int.reduceAdd, Int.reduceSub, Int.reduceMul, Tryz.f118, kr118, ty3, ty9, bin_shl, bin_shr, bin_and, cv_u8, c1, c2, c3]
        erw [hi]
        simp (config := { maxSteps := 1000000 }) (disch := omega) only [push_cast, ↓reduceIte, Nat.reduceEqDiff, Nat.reduceAdd, Nat.reduceLT, Nat.reduceLeDiff, Nat.reduceBEq, Nat.reduceMul, Nat.reduceSub, Int.reduceToNat, Int.reduceEq, Int.reduceLT, Int.reduceLE, Int.reduceNeg, Int.reduceAdd, Int.reduceSub, Int.reduceMul, Tryz.f118, kr118, ty3, ty9, cv_8i, w8, Int.zero_add]
      · have hk := hb (shrK .u64 (shrK .u64 n 32) 16)
        simp only [if_pos, if_neg, c1, c2, c3, if_true, if_false, not_false_eq_true, Int.zero_add, Int.add_zero]
        simp (config := { maxSteps := 1000000 }) (disch := omega) only [push_cast, ↓reduceIte, Nat.reduceEqDiff, Nat.reduceAdd, Nat.reduceLT, Nat.reduceLeDiff, Nat.reduceBEq, Nat.reduceMul, Nat.reduceSub, Int.reduceToNat, Int.reduceEq, Int.reduceLT, Int.reduceLE, Int.reduceNeg, Int.reduceAdd, Int.reduceSub, Int.reduceMul, Tryz.f118, kr118, ty3, ty9, bin_shl, bin_shr, bin_and, cv_u8, c1, c2, c3]
        erw [hi]
        simp (config := { maxSteps := 1000000 }) (disch := omega) only [push_cast, ↓reduceIte, Nat.reduceEqDiff, Nat.reduceAdd, Nat.reduceLT, Nat.reduceLeDiff, Nat.reduceBEq, Nat.reduceMul, Nat.reduceSub, Int.reduceToNat, Int.reduceEq, Int.reduceLT, Int.reduceLE, Int.reduceNeg, Int.reduceAdd, Int.reduceSub, Int.reduceMul, Tryz.f118, kr118, ty3, ty9, cv_8i, w8, Int.zero_add]
    · by_cases c3 : 256 ≤ shrK .u64 n 32
      · have hk := hb (shrK .u64 (shrK .u64 n 32) 8)
        simp only [if_pos, if_neg, c1, c2, c3, if_true, if_false, not_false_eq_true, Int.zero_add, Int.add_zero]
        simp (config := { maxSteps := 1000000 }) (disch := omega) only [push_cast, ↓reduceIte, Nat.reduceEqDiff, Nat.reduceAdd, Nat.reduceLT, Nat.reduceLeDiff, Nat.reduceBEq, Nat.reduceMul, Nat.reduceSub, Int.reduceToNat, Int.reduceEq, Int.reduceLT, Int.reduceLE, Int.reduceNeg, Int.reduceAdd, Int.reduceSub, Int.reduceMul, Tryz.f118, kr118, ty3, ty9, bin_shl, bin_shr, bin_and, cv_u8, c1, c2, c3]
        erw [hi]
        simp (config := { maxSteps := 1000000 }) (disch := omega) only [push_cast, ↓reduceIte, Nat.reduceEqDiff, Nat.reduceAdd, Nat.reduceLT, Nat.reduceLeDiff, Nat.reduceBEq, Nat.reduceMul, Nat.reduceSub, Int.reduceToNat, Int.reduceEq, Int.reduceLT, Int.reduceLE, Int.reduceNeg, Int.reduceAdd, Int.reduceSub, Int.reduceMul, Tryz.f118, kr118, ty3, ty9, cv_8i, w8, Int.zero_add]
      · have hk := hb (shrK .u64 n 32)
        simp only [if_pos, if_neg, c1, c2, c3, if_true, if_false, not_false_eq_true, Int.zero_add, Int.add_zero]
        simp (config := { maxSteps := 1000000 }) (disch := omega) only [push_cast, ↓reduceIte, Nat.reduceEqDiff, Nat.reduceAdd, Nat.reduceLT, Nat.reduceLeDiff, Nat.reduceBEq, Nat.reduceMul, Nat.reduceSub, Int.reduceToNat, Int.reduceEq, Int.reduceLT, Int.reduceLE, Int.reduceNeg, Int.reduceAdd, Int.reduceSub, Int.reduceMul, Tryz.f118, kr118, ty3, ty9, bin_shl, bin_shr, bin_and, cv_u8, c1, c2, c3]
        erw [hi]
        simp (config := { maxSteps := 1000000 }) (disch := omega) only [push_cast, ↓reduceIte, Nat.reduceEqDiff, Nat.reduceAdd, Nat.reduceLT, Nat.reduceLeDiff, Nat.reduceBEq, Nat.reduceMul, Nat.reduceSub, Int.reduceToNat, Int.reduceEq, Int.reduceLT, Int.reduceLE, Int.reduceNeg, Int.reduceAdd, Int.reduceSub, Int.reduceMul, Tryz.f118, kr118, ty3, ty9, cv_8i, w8, Int.zero_add]
  · by_cases c2 : 65536 ≤ n
    · by_cases c3 : 256 ≤ shrK .u64 n 16
      · have hk := hb (shrK .u64 (shrK .u64 n 16) 8)
        simp only [if_pos, if_neg, c1, c2, c3, if_true, if_false, not_false_eq_true, Int.zero_add, Int.add_zero]
        simp (config := { maxSteps := 1000000 }) (disch := omega) only [push_cast, ↓reduceIte, Nat.reduceEqDiff, Nat.reduceAdd, Nat.reduceLT, Nat.reduceLeDiff, Nat.reduceBEq, Nat.reduceMul, Nat.reduceSub, Int.reduceToNat, Int.reduceEq, Int.reduceLT, Int.reduceLE, Int.reduceNeg, Int.reduceAdd, Int.reduceSub, Int.reduceMul, Tryz.f118, kr118, ty3, ty9, bin_shl, bin_shr, bin_and, cv_u8, c1, c2, c3]
        erw [hi]
        simp (config := { maxSteps := 1000000 }) (disch := omega) only [push_cast, ↓reduceIte, Nat.reduceEqDiff, Nat.reduceAdd, Nat.reduceLT, Nat.reduceLeDiff, Nat.reduceBEq, Nat.reduceMul, Nat.reduceSub, Int.reduceToNat, Int.reduceEq, Int.reduceLT, Int.reduceLE, Int.reduceNeg, Int.reduceAdd, Int.reduceSub, Int.reduceMul, Tryz.f118, kr118, ty3, ty9, cv_8i, w8, Int.zero_add]
      · have hk := hb (shrK .u64 n 16)
        simp only [if_pos, if_neg, c1, c2, c3, if_true, if_false, not_false_eq_true, Int.zero_add, Int.add_zero]
        simp (config := { maxSteps := 1000000 }) (disch := omega) only [push_cast, ↓reduceIte, Nat.reduceEqDiff, Nat.reduceAdd, Nat.reduceLT, Nat.reduceLeDiff, Nat.reduceBEq, Nat.reduceMul, Nat.reduceSub, Int.reduceToNat, Int.reduceEq, Int.reduceLT, Int.reduceLE, Int.reduceNeg, Int.reduceAdd, Int.reduceSub, Int.reduceMul, Tryz.f118, kr118, ty3, ty9, bin_shl, bin_shr, bin_and, cv_u8, c1, c2, c3]
        erw [hi]
        simp (config := { maxSteps := 1000000 }) (disch := omega) only [push_cast, ↓reduceIte, Nat.reduceEqDiff, Nat.reduceAdd, Nat.reduceLT, Nat.reduceLeDiff, Nat.reduceBEq, Nat.reduceMul, Nat.reduceSub, Int.reduceToNat, Int.reduceEq, Int.reduceLT, Int.reduceLE, Int.reduceNeg, Int.reduceAdd, Int.reduceSub, Int.reduceMul, Tryz.f118, kr118, ty3, ty9, cv_8i, w8, Int.zero_add]
    · by_cases c3 : 256 ≤ n
      · have hk := hb (shrK .u64 n 8)
        simp only [if_pos, if_neg, c1, c2, c3, if_true, if_false, not_false_eq_true, Int.zero_add, Int.add_zero]
        simp (config := { maxSteps := 1000000 }) (disch := omega) only [push_cast, ↓reduceIte, Nat.reduceEqDiff, Nat.reduceAdd, Nat.reduceLT, Nat.reduceLeDiff, Nat.reduceBEq, Nat.reduceMul, Nat.reduceSub, Int.reduceToNat, Int.reduceEq, Int.reduceLT, Int.reduceLE, Int.reduceNeg, Int.reduceAdd, Int.reduceSub, Int.reduceMul, Tryz.f118, kr118, ty3, ty9, bin_shl, bin_shr, bin_and, cv_u8, c1, c2, c3]
        erw [hi]
        simp (config := { maxSteps := 1000000 }) (disch := omega) only [push_cast, ↓reduceIte, Nat.reduceEqDiff, Nat.reduceAdd, Nat.reduceLT, Nat.reduceLeDiff, Nat.reduceBEq, Nat.reduceMul, Nat.reduceSub, Int.reduceToNat, Int.reduceEq, Int.reduceLT, Int.reduceLE, Int.reduceNeg, Int.reduceAdd, Int.reduceSub, Int.reduceMul, Tryz.f118, kr118, ty3, ty9, cv_8i, w8, Int.zero_add]
      · have hk := hb n
        simp only [if_pos, if_neg, c1, c2, c3, if_true, if_false, not_false_eq_true, Int.zero_add, Int.add_zero]
        simp (config := { maxSteps := 1000000 }) (disch := omega) only [push_cast, ↓reduceIte, Nat.reduceEqDiff, Nat.reduceAdd, Nat.reduceLT, Nat.reduceLeDiff, Nat.reduceBEq, Nat.reduceMul, Nat.reduceSub, Int.reduceToNat, Int.reduceEq, Int.reduceLT, Int.reduceLE, Int.reduceNeg, Int.reduceAdd, Int.reduceSub, Int.reduceMul, Tryz.f118, kr118, ty3, ty9, bin_shl, bin_shr, bin_and, cv_u8, c1, c2, c3]
        erw [hi]
        simp (config := { maxSteps := 1000000 }) (disch := omega) only [push_cast, ↓reduceIte, Nat.reduceEqDiff, Nat.reduceAdd, Nat.reduceLT, Nat.reduceLeDiff, Nat.reduceBEq, Nat.reduceMul, Nat.reduceSub, Int.reduceToNat, Int.reduceEq, Int.reduceLT, Int.reduceLE, Int.reduceNeg, Int.reduceAdd, Int.reduceSub, Int.reduceMul, Tryz.f118, kr118, ty3, ty9, cv_8i, w8, Int.zero_add]
end Go.Proofs.YtnbijiopcgfmfaaGreat.Tev
/- What is known of a kind of floats; rounding. -/
namespace Go.Proofs.YtnbijiopcgfmfaaGreat.Tev
open Go Go.RowKit Go.Proofs Go.Proofs.YtnbijiopcgfmfaaGreat.Q
set_option linter.unusedSectionVars false
set_option maxRecDepth 100000
set_option maxHeartbeats 0
set_option linter.unusedSimpArgs false
set_option linter.unusedVariables false
theorem u64_wrap {x : Int} (h1 : 0 ≤ x) (h2 : x < 18446744073709551616) : IntKind.u64.wrap x = x := by
  have e : IntKind.u64.wrap x = x % 18446744073709551616 := by simp [IntKind.wrap, IntKind.bits, IntKind.signed]
  rw [e]; omega
theorem u64_bd (n : Int) : 0 ≤ IntKind.u64.wrap n ∧ IntKind.u64.wrap n < 18446744073709551616 := by
  have e : IntKind.u64.wrap n = n % 18446744073709551616 := by simp [IntKind.wrap, IntKind.bits, IntKind.signed]
  rw [e]; omega
theorem i64_bd (n : Int) : -9223372036854775808 ≤ IntKind.i64.wrap n ∧ IntKind.i64.wrap n < 9223372036854775808 := by
  have e : IntKind.i64.wrap n = if n % 18446744073709551616 ≥ 9223372036854775808 then n % 18446744073709551616 - 18446744073709551616 else n % 18446744073709551616 := by simp [IntKind.wrap, IntKind.bits, IntKind.signed]
  rw [e]; split <;> omega
theorem lenQ_bd (n : Int) : 0 ≤ lenQ n ∧ lenQ n ≤ 64 := by
  unfold lenQ
  have : ∀ k, 0 ≤ len8 (IntKind.u8.wrap k) ∧ len8 (IntKind.u8.wrap k) ≤ 8 := fun k => by
    obtain ⟨_, _, _, _, h0, h8, _⟩ := len8_ok (u8_bd k).1 (u8_bd k).2
    exact ⟨h0, h8⟩
  simp only
  generalize hq : len8 (IntKind.u8.wrap _) = q
  have h : 0 ≤ q ∧ q ≤ 8 := hq ▸ this _
  split <;> split <;> split <;> omega
theorem k_LZ (n : Int) : CALL 113 [U64 n] = some (I (64 - lenQ n), []) := by
  have h := lenQ_bd n
  refine lim_run (fn := Tryz.f113) fn113 rfl body113 (Nat.le_of_ble_eq_true rfl) ok113 ?_
  simp (config := { maxSteps := 1000000 }) (disch := omega) only [push_cast, ↓reduceIte, Nat.reduceEqDiff, Nat.reduceAdd, Nat.reduceLT, Nat.reduceLeDiff, Nat.reduceBEq, Nat.reduceMul, Nat.reduceSub, Int.reduceToNat, Int.reduceEq, Int.reduceLT, Int.reduceLE, Int.reduceNeg, Int.reduceAdd, Int.reduceSub, Int.reduceMul, Tryz.f113, kr113, ty3, k_Len64]
/-- The two kinds. -/
def okS (p w : Int) : Prop := (p = 24 ∧ w = 8) ∨ (p = 53 ∧ w = 11)
abbrev Shp (p w : Int) : T := .agg [I p, I w]
def biasQ (w : Int) : Int := if w = 8 then 127 else 1023
def leastQ (w : Int) : Int := if w = 8 then -149 else -1074
def topQ (w : Int) : Int := if w = 8 then 255 else 2047
theorem f_of4 : CALL 53 [I 4] = some (.tup [Shp 24 8, B true], []) := by
  refine lim_run (fn := Tryz.f53) fn53 rfl body53 (Nat.le_of_ble_eq_true rfl) ok53 ?_
  simp (config := { maxSteps := 1000000 }) (disch := omega) only [push_cast, ↓reduceIte, Nat.reduceEqDiff, Nat.reduceAdd, Nat.reduceLT, Nat.reduceLeDiff, Nat.reduceBEq, Nat.reduceMul, Nat.reduceSub, Int.reduceToNat, Int.reduceEq, Int.reduceLT, Int.reduceLE, Int.reduceNeg, Int.reduceAdd, Int.reduceSub, Int.reduceMul, Tryz.f53, kr53, ty3, ty4, ty83, tb4]
theorem f_of8 : CALL 53 [I 8] = some (.tup [Shp 53 11, B true], []) := by
  refine lim_run (fn := Tryz.f53) fn53 rfl body53 (Nat.le_of_ble_eq_true rfl) ok53 ?_
  simp (config := { maxSteps := 1000000 }) (disch := omega) only [push_cast, ↓reduceIte, Nat.reduceEqDiff, Nat.reduceAdd, Nat.reduceLT, Nat.reduceLeDiff, Nat.reduceBEq, Nat.reduceMul, Nat.reduceSub, Int.reduceToNat, Int.reduceEq, Int.reduceLT, Int.reduceLE, Int.reduceNeg, Int.reduceAdd, Int.reduceSub, Int.reduceMul, Tryz.f53, kr53, ty3, ty4, ty83, tb4]
section
variable {p w : Int} (hs : okS p w)
include hs
theorem f_bias : CALL 79 [Shp p w] = some (I (biasQ w), []) := by
  have e1 : shlK .i64 1 7 = 128 := by decide
  have e2 : shlK .i64 1 10 = 1024 := by decide
  rcases hs with ⟨rfl, rfl⟩ | ⟨rfl, rfl⟩
  · refine lim_run (fn := Tryz.f79) fn79 rfl body79 (Nat.le_of_ble_eq_true rfl) ok79 ?_
    simp (config := { maxSteps := 1000000 }) (disch := omega) only [push_cast, ↓reduceIte, Nat.reduceEqDiff, Nat.reduceAdd, Nat.reduceLT, Nat.reduceLeDiff, Nat.reduceBEq, Nat.reduceMul, Nat.reduceSub, Int.reduceToNat, Int.reduceEq, Int.reduceLT, Int.reduceLE, Int.reduceNeg, Int.reduceAdd, Int.reduceSub, Int.reduceMul, Tryz.f79, kr79, ty3, ty83, bin_shl, e1, e2]
    rfl
  · refine lim_run (fn := Tryz.f79) fn79 rfl body79 (Nat.le_of_ble_eq_true rfl) ok79 ?_
    simp (config := { maxSteps := 1000000 }) (disch := omega) only [push_cast, ↓reduceIte, Nat.reduceEqDiff, Nat.reduceAdd, Nat.reduceLT, Nat.reduceLeDiff, Nat.reduceBEq, Nat.reduceMul, Nat.reduceSub, Int.reduceToNat, Int.reduceEq, Int.reduceLT, Int.reduceLE, Int.reduceNeg, Int.reduceAdd, Int.reduceSub, Int.reduceMul, Tryz.f79, kr79, ty3, ty83, bin_shl, e1, e2]
    rfl
theorem f_least : CALL 78 [Shp p w] = some (I (leastQ w), []) := by
  have hb := f_bias hs
  rcases hs with ⟨rfl, rfl⟩ | ⟨rfl, rfl⟩
  · rw [show biasQ 8 = 127 from rfl] at hb
    refine lim_run (fn := Tryz.f78) fn78 rfl body78 (Nat.le_of_ble_eq_true rfl) ok78 ?_
    simp (config := { maxSteps := 1000000 }) (disch := omega) only [push_cast, ↓reduceIte, Nat.reduceEqDiff, Nat.reduceAdd, Nat.reduceLT, Nat.reduceLeDiff, Nat.reduceBEq, Nat.reduceMul, Nat.reduceSub, Int.reduceToNat, Int.reduceEq, Int.reduceLT, Int.reduceLE, Int.reduceNeg, Int.reduceAdd, Int.reduceSub, Int.reduceMul, Tryz.f78, kr78, ty3, ty83, hb]
    rfl
  · rw [show biasQ 11 = 1023 from rfl] at hb
    refine lim_run (fn := Tryz.f78) fn78 rfl body78 (Nat.le_of_ble_eq_true rfl) ok78 ?_
    simp (config := { maxSteps := 1000000 }) (disch := omega) only [push_cast, ↓reduceIte, Nat.reduceEqDiff, Nat.reduceAdd, Nat.reduceLT, Nat.reduceLeDiff, Nat.reduceBEq, Nat.reduceMul, Nat.reduceSub, Int.reduceToNat, Int.reduceEq, Int.reduceLT, Int.reduceLE, Int.reduceNeg, Int.reduceAdd, Int.reduceSub, Int.reduceMul, Tryz.f78, kr78, ty3, ty83, hb]
    rfl
theorem f_top : CALL 77 [Shp p w] = some (U64 (topQ w), []) := by
  have e1 : shlK .u64 1 8 = 256 := by decide
  have e2 : shlK .u64 1 11 = 2048 := by decide
  rcases hs with ⟨rfl, rfl⟩ | ⟨rfl, rfl⟩
  · refine lim_run (fn := Tryz.f77) fn77 rfl body77 (Nat.le_of_ble_eq_true rfl) ok77 ?_
    simp (config := { maxSteps := 1000000 }) (disch := omega) only [push_cast, ↓reduceIte, Nat.reduceEqDiff, Nat.reduceAdd, Nat.reduceLT, Nat.reduceLeDiff, Nat.reduceBEq, Nat.reduceMul, Nat.reduceSub, Int.reduceToNat, Int.reduceEq, Int.reduceLT, Int.reduceLE, Int.reduceNeg, Int.reduceAdd, Int.reduceSub, Int.reduceMul, Tryz.f77, kr77, ty3, ty83, ty86, bin_shl, e1, e2]
    rfl
  · refine lim_run (fn := Tryz.f77) fn77 rfl body77 (Nat.le_of_ble_eq_true rfl) ok77 ?_
    simp (config := { maxSteps := 1000000 }) (disch := omega) only [push_cast, ↓reduceIte, Nat.reduceEqDiff, Nat.reduceAdd, Nat.reduceLT, Nat.reduceLeDiff, Nat.reduceBEq, Nat.reduceMul, Nat.reduceSub, Int.reduceToNat, Int.reduceEq, Int.reduceLT, Int.reduceLE, Int.reduceNeg, Int.reduceAdd, Int.reduceSub, Int.reduceMul, Tryz.f77, kr77, ty3, ty83, ty86, bin_shl, e1, e2]
    rfl
theorem f_pack (s e f : Int) : ∃ n, CALL 110 [Shp p w, I s, U64 e, U64 f] = some (I n, []) := by
  rcases hs with ⟨rfl, rfl⟩ | ⟨rfl, rfl⟩
  · refine ⟨?_, ?_⟩
    rotate_left
    · refine lim_run (fn := Tryz.f110) fn110 rfl body110 (Nat.le_of_ble_eq_true rfl) ok110 ?_
      simp (config := { maxSteps := 1000000 }) (disch := omega) only [push_cast, ↓reduceIte, Nat.reduceEqDiff, Nat.reduceAdd, Nat.reduceLT, Nat.reduceLeDiff, Nat.reduceBEq, Nat.reduceMul, Nat.reduceSub, Int.reduceToNat, Int.reduceEq, Int.reduceLT, Int.reduceLE, Int.reduceNeg, Int.reduceAdd, Int.reduceSub, Int.reduceMul, Tryz.f110, kr110, ty3, ty83, bin_shl, bin_or, cv_iu, cv_ui]
      rfl
  · refine ⟨?_, ?_⟩
    rotate_left
    · refine lim_run (fn := Tryz.f110) fn110 rfl body110 (Nat.le_of_ble_eq_true rfl) ok110 ?_
      simp (config := { maxSteps := 1000000 }) (disch := omega) only [push_cast, ↓reduceIte, Nat.reduceEqDiff, Nat.reduceAdd, Nat.reduceLT, Nat.reduceLeDiff, Nat.reduceBEq, Nat.reduceMul, Nat.reduceSub, Int.reduceToNat, Int.reduceEq, Int.reduceLT, Int.reduceLE, Int.reduceNeg, Int.reduceAdd, Int.reduceSub, Int.reduceMul, Tryz.f110, kr110, ty3, ty83, bin_shl, bin_or, cv_iu, cv_ui]
      rfl
end
open Classical in
noncomputable def packN (p w s e f : Int) : Int := if h : okS p w then Classical.choose (f_pack h s e f) else 0
theorem f_packN {p w : Int} (hs : okS p w) (s e f : Int) : CALL 110 [Shp p w, I s, U64 e, U64 f] = some (I (packN p w s e f), []) := by
  unfold packN
  rw [dif_pos hs]
  exact Classical.choose_spec (f_pack hs s e f)
section
variable {p w : Int} (hs : okS p w)
include hs
theorem f_inf (s : Int) : ∃ n, CALL 93 [Shp p w, I s] = some (I n, []) := by
  have h1 := f_packN hs
  have h2 := f_top hs
  refine ⟨?_, ?_⟩
  rotate_left
  · refine lim_run (fn := Tryz.f93) fn93 rfl body93 (Nat.le_of_ble_eq_true rfl) ok93 ?_
    simp (config := { maxSteps := 1000000 }) (disch := omega) only [push_cast, ↓reduceIte, Nat.reduceEqDiff, Nat.reduceAdd, Nat.reduceLT, Nat.reduceLeDiff, Nat.reduceBEq, Nat.reduceMul, Nat.reduceSub, Int.reduceToNat, Int.reduceEq, Int.reduceLT, Int.reduceLE, Int.reduceNeg, Int.reduceAdd, Int.reduceSub, Int.reduceMul, Tryz.f93, kr93, ty3, ty83, h1, h2]
    rfl
theorem f_quiet : ∃ n, CALL 92 [Shp p w] = some (I n, []) := by
  have h1 := f_packN hs
  have h2 := f_top hs
  rcases hs with ⟨rfl, rfl⟩ | ⟨rfl, rfl⟩
  all_goals
    refine ⟨?_, ?_⟩
    rotate_left
    · refine lim_run (fn := Tryz.f92) fn92 rfl body92 (Nat.le_of_ble_eq_true rfl) ok92 ?_
      simp (config := { maxSteps := 1000000 }) (disch := omega) only [push_cast, ↓reduceIte, Nat.reduceEqDiff, Nat.reduceAdd, Nat.reduceLT, Nat.reduceLeDiff, Nat.reduceBEq, Nat.reduceMul, Nat.reduceSub, Int.reduceToNat, Int.reduceEq, Int.reduceLT, Int.reduceLE, Int.reduceNeg, Int.reduceAdd, Int.reduceSub, Int.reduceMul, Tryz.f92, kr92, ty3, ty83, h1, h2, bin_shl]
      rfl
theorem f_greatest (s : Int) : ∃ n, CALL 112 [Shp p w, I s] = some (I n, []) := by
  have h1 := f_packN hs
  have h2 := f_top hs
  rcases hs with ⟨rfl, rfl⟩ | ⟨rfl, rfl⟩
  all_goals
    refine ⟨?_, ?_⟩
    rotate_left
    · refine lim_run (fn := Tryz.f112) fn112 rfl body112 (Nat.le_of_ble_eq_true rfl) ok112 ?_
      simp (config := { maxSteps := 1000000 }) (disch := omega) only [push_cast, ↓reduceIte, Nat.reduceEqDiff, Nat.reduceAdd, Nat.reduceLT, Nat.reduceLeDiff, Nat.reduceBEq, Nat.reduceMul, Nat.reduceSub, Int.reduceToNat, Int.reduceEq, Int.reduceLT, Int.reduceLE, Int.reduceNeg, Int.reduceAdd, Int.reduceSub, Int.reduceMul, Tryz.f112, kr112, ty3, ty83, h1, h2, bin_shl]
      rfl
theorem f_zero (s : Int) : ∃ n, CALL 94 [Shp p w, I s] = some (I n, []) := by
  have h1 := f_packN hs
  refine ⟨?_, ?_⟩
  rotate_left
  · refine lim_run (fn := Tryz.f94) fn94 rfl body94 (Nat.le_of_ble_eq_true rfl) ok94 ?_
    simp (config := { maxSteps := 1000000 }) (disch := omega) only [push_cast, ↓reduceIte, Nat.reduceEqDiff, Nat.reduceAdd, Nat.reduceLT, Nat.reduceLeDiff, Nat.reduceBEq, Nat.reduceMul, Nat.reduceSub, Int.reduceToNat, Int.reduceEq, Int.reduceLT, Int.reduceLE, Int.reduceNeg, Int.reduceAdd, Int.reduceSub, Int.reduceMul, Tryz.f94, kr94, ty3, ty83, h1]
    rfl
theorem f_none : ∃ n, CALL 108 [Shp p w, I 0] = some (I n, []) := by
  obtain ⟨n, h1⟩ := f_zero hs 0
  refine ⟨n, ?_⟩
  refine lim_run (fn := Tryz.f108) fn108 rfl body108 (Nat.le_of_ble_eq_true rfl) ok108 ?_
  simp (config := { maxSteps := 1000000 }) (disch := omega) only [push_cast, ↓reduceIte, Nat.reduceEqDiff, Nat.reduceAdd, Nat.reduceLT, Nat.reduceLeDiff, Nat.reduceBEq, Nat.reduceMul, Nat.reduceSub, Int.reduceToNat, Int.reduceEq, Int.reduceLT, Int.reduceLE, Int.reduceNeg, Int.reduceAdd, Int.reduceSub, Int.reduceMul, Tryz.f108, kr108, ty3, ty83, h1]
end
abbrev Exa (hi lo e : Int) (more : Bool) : T := .agg [U64 hi, U64 lo, I e, B more]
theorem f_long (hi lo e : Int) (more : Bool) : ∃ n, 0 ≤ n ∧ n ≤ 128 ∧ CALL 111 [Exa hi lo e more] = some (I n, []) := by
  have h1 := lenQ_bd hi
  have h2 := lenQ_bd lo
  by_cases c : hi = 0
  · subst c
    refine ⟨lenQ lo, by omega, by omega, ?_⟩
    refine lim_run (fn := Tryz.f111) fn111 rfl body111 (Nat.le_of_ble_eq_true rfl) ok111 ?_
    simp (config := { maxSteps := 1000000 }) (disch := omega) only [push_cast, ↓reduceIte, Nat.reduceEqDiff, Nat.reduceAdd, Nat.reduceLT, Nat.reduceLeDiff, Nat.reduceBEq, Nat.reduceMul, Nat.reduceSub, Int.reduceToNat, Int.reduceEq, Int.reduceLT, Int.reduceLE, Int.reduceNeg, Int.reduceAdd, Int.reduceSub, Int.reduceMul, Tryz.f111, kr111, ty3, ty4, ty86, ty120, tb4, k_Len64, ne_eq]
  · refine ⟨64 + lenQ hi, by omega, by omega, ?_⟩
    refine lim_run (fn := Tryz.f111) fn111 rfl body111 (Nat.le_of_ble_eq_true rfl) ok111 ?_
    simp (config := { maxSteps := 1000000 }) (disch := omega) only [push_cast, ↓reduceIte, Nat.reduceEqDiff, Nat.reduceAdd, Nat.reduceLT, Nat.reduceLeDiff, Nat.reduceBEq, Nat.reduceMul, Nat.reduceSub, Int.reduceToNat, Int.reduceEq, Int.reduceLT, Int.reduceLE, Int.reduceNeg, Int.reduceAdd, Int.reduceSub, Int.reduceMul, Tryz.f111, kr111, ty3, ty4, ty86, ty120, tb4, k_Len64, ne_eq, c]
theorem f_away (s : Int) (odd : Bool) (rest : Int) : ∃ b, CALL 107 [I 0, I s, B odd, I rest] = some (B b, []) := by
  by_cases c : rest = 3
  · refine ⟨true, ?_⟩
    refine lim_run (fn := Tryz.f107) fn107 rfl body107 (Nat.le_of_ble_eq_true rfl) ok107 ?_
    simp (config := { maxSteps := 1000000 }) (disch := omega) only [push_cast, ↓reduceIte, Nat.reduceEqDiff, Nat.reduceAdd, Nat.reduceLT, Nat.reduceLeDiff, Nat.reduceBEq, Nat.reduceMul, Nat.reduceSub, Int.reduceToNat, Int.reduceEq, Int.reduceLT, Int.reduceLE, Int.reduceNeg, Int.reduceAdd, Int.reduceSub, Int.reduceMul, Tryz.f107, kr107, ty4, tb4, c]
  · by_cases c2 : rest = 2
    · refine ⟨odd, ?_⟩
      refine lim_run (fn := Tryz.f107) fn107 rfl body107 (Nat.le_of_ble_eq_true rfl) ok107 ?_
      simp (config := { maxSteps := 1000000 }) (disch := omega) only [push_cast, ↓reduceIte, Nat.reduceEqDiff, Nat.reduceAdd, Nat.reduceLT, Nat.reduceLeDiff, Nat.reduceBEq, Nat.reduceMul, Nat.reduceSub, Int.reduceToNat, Int.reduceEq, Int.reduceLT, Int.reduceLE, Int.reduceNeg, Int.reduceAdd, Int.reduceSub, Int.reduceMul, Tryz.f107, kr107, ty4, tb4, c, c2]
    · refine ⟨false, ?_⟩
      refine lim_run (fn := Tryz.f107) fn107 rfl body107 (Nat.le_of_ble_eq_true rfl) ok107 ?_
      simp (config := { maxSteps := 1000000 }) (disch := omega) only [push_cast, ↓reduceIte, Nat.reduceEqDiff, Nat.reduceAdd, Nat.reduceLT, Nat.reduceLeDiff, Nat.reduceBEq, Nat.reduceMul, Nat.reduceSub, Int.reduceToNat, Int.reduceEq, Int.reduceLT, Int.reduceLE, Int.reduceNeg, Int.reduceAdd, Int.reduceSub, Int.reduceMul, Tryz.f107, kr107, ty4, tb4, c, c2]
theorem l_right : ∀ (k : Nat) (n hi lo : Int) (half below : Bool), n.toNat = k → n ≤ 1000000 → ∃ n' lo' half' below', lp E0 pr0 106 3 ⟨[(1, I n), (6, U64 hi), (7, U64 lo), (8, B half), (9, B below)], [], 0⟩ =
    some (.exit 0, ⟨[(1, I n'), (7, U64 lo'), (8, B half'), (9, B below')], [], 0⟩) := by
  intro k
  induction k with
  | zero =>
    intro n hi lo half below hk hn
    have c : ¬ 0 < n := by omega
    refine ⟨n, lo, half, below, ?_⟩
    rw [lp_eq lp106_3]
    simp (config := { maxSteps := 1000000 }) (disch := omega) only [push_cast, ↓reduceIte, Nat.reduceEqDiff, Nat.reduceAdd, Nat.reduceLT, Nat.reduceLeDiff, Nat.reduceBEq, Nat.reduceMul, Nat.reduceSub, Int.reduceToNat, Int.reduceEq, Int.reduceLT, Int.reduceLE, Int.reduceNeg, Int.reduceAdd, Int.reduceSub, Int.reduceMul, Tryz.f106, kr106, kp106_3, ow106_3, ty3, ty4, ty86, ty120, tb4, c]
  | succ k ih =>
    intro n hi lo half below hk hn
    have c : 0 < n := by omega
    have ih' := fun hi lo half below => ih (n - 1) hi lo half below (by omega) (by omega)
    by_cases c1 : hi = 0 ∧ lo = 0 ∧ half = false
    · obtain ⟨rfl, rfl, rfl⟩ := c1
      refine ⟨n, 0, false, below, ?_⟩
      rw [lp_eq lp106_3]
      simp (config := { maxSteps := 1000000 }) (disch := omega) only [push_cast, ↓reduceIte, Nat.reduceEqDiff, Nat.reduceAdd, Nat.reduceLT, Nat.reduceLeDiff, Nat.reduceBEq, Nat.reduceMul, Nat.reduceSub, Int.reduceToNat, Int.reduceEq, Int.reduceLT, Int.reduceLE, Int.reduceNeg, Int.reduceAdd, Int.reduceSub, Int.reduceMul, Tryz.f106, kr106, kp106_3, ow106_3, ty3, ty4, ty86, ty120, tb4, c, ne_eq]
    · obtain ⟨n', lo', half', below', h⟩ := ih' (shrK .u64 hi 1) (orK .u64 (shrK .u64 lo 1) (shlK .u64 hi 63)) (decide (andK .u64 lo 1 = 1)) (below || half)
      refine ⟨n', lo', half', below', ?_⟩
      have c2 : (¬ hi = 0) ∨ (hi = 0 ∧ ¬ lo = 0) ∨ (hi = 0 ∧ lo = 0 ∧ half = true) := by
        by_cases d1 : hi = 0
        · by_cases d2 : lo = 0
          · refine .inr (.inr ⟨d1, d2, ?_⟩)
            cases half
            · exact absurd ⟨d1, d2, rfl⟩ c1
            · rfl
          · exact .inr (.inl ⟨d1, d2⟩)
        · exact .inl d1
      rw [lp_eq lp106_3]
      rcases c2 with d | ⟨d1, d2⟩ | ⟨d1, d2, d3⟩
      · cases below <;> cases half <;> simp only [Bool.or_true, Bool.or_false, Bool.true_or, Bool.false_or] at h <;> simp (config := { maxSteps := 1000000 }) (disch := omega) only [push_cast, ↓reduceIte, Nat.reduceEqDiff, Nat.reduceAdd, Nat.reduceLT, Nat.reduceLeDiff, Nat.reduceBEq, Nat.reduceMul, Nat.reduceSub, Int.reduceToNat, Int.reduceEq, Int.reduceLT, Int.reduceLE, Int.reduceNeg, Int.reduceAdd, Int.reduceSub, Int.reduceMul, Tryz.f106, kr106, kp106_3, ow106_3, ty3, ty4, ty86, ty120, tb4, c, ne_eq, d, bin_shl, bin_shr, bin_and, bin_or, h]
      · subst d1
        cases below <;> cases half <;> simp only [Bool.or_true, Bool.or_false, Bool.true_or, Bool.false_or] at h <;> simp (config := { maxSteps := 1000000 }) (disch := omega) only [push_cast, ↓reduceIte, Nat.reduceEqDiff, Nat.reduceAdd, Nat.reduceLT, Nat.reduceLeDiff, Nat.reduceBEq, Nat.reduceMul, Nat.reduceSub, Int.reduceToNat, Int.reduceEq, Int.reduceLT, Int.reduceLE, Int.reduceNeg, Int.reduceAdd, Int.reduceSub, Int.reduceMul, Tryz.f106, kr106, kp106_3, ow106_3, ty3, ty4, ty86, ty120, tb4, c, ne_eq, d2, bin_shl, bin_shr, bin_and, bin_or, h]
      · subst d1 d2 d3
        cases below <;> simp only [Bool.or_true, Bool.or_false, Bool.true_or, Bool.false_or] at h <;> simp (config := { maxSteps := 1000000 }) (disch := omega) only [push_cast, ↓reduceIte, Nat.reduceEqDiff, Nat.reduceAdd, Nat.reduceLT, Nat.reduceLeDiff, Nat.reduceBEq, Nat.reduceMul, Nat.reduceSub, Int.reduceToNat, Int.reduceEq, Int.reduceLT, Int.reduceLE, Int.reduceNeg, Int.reduceAdd, Int.reduceSub, Int.reduceMul, Tryz.f106, kr106, kp106_3, ow106_3, ty3, ty4, ty86, ty120, tb4, c, ne_eq, bin_shl, bin_shr, bin_and, bin_or, h]
theorem f_right (hi lo e n : Int) (more : Bool) (hn : n ≤ 1000000) : ∃ m r, CALL 106 [Exa hi lo e more, I n] = some (.tup [U64 m, I r], []) := by
  obtain ⟨n', lo', half', below', h⟩ := l_right _ n hi lo false more rfl hn
  by_cases c : 0 < n'
  · refine ⟨lo', 1, ?_⟩
    refine lim_run (fn := Tryz.f106) fn106 rfl body106 (Nat.le_of_ble_eq_true rfl) ok106 ?_
    simp (config := { maxSteps := 1000000 }) (disch := omega) only [push_cast, ↓reduceIte, Nat.reduceEqDiff, Nat.reduceAdd, Nat.reduceLT, Nat.reduceLeDiff, Nat.reduceBEq, Nat.reduceMul, Nat.reduceSub, Int.reduceToNat, Int.reduceEq, Int.reduceLT, Int.reduceLE, Int.reduceNeg, Int.reduceAdd, Int.reduceSub, Int.reduceMul, Tryz.f106, kr106, kp106_3, ow106_3, ty3, ty4, ty86, ty120, tb4, h, c]
  · cases half' <;> cases below'
    · refine ⟨lo', 0, ?_⟩
      refine lim_run (fn := Tryz.f106) fn106 rfl body106 (Nat.le_of_ble_eq_true rfl) ok106 ?_
      simp (config := { maxSteps := 1000000 }) (disch := omega) only [push_cast, ↓reduceIte, Nat.reduceEqDiff, Nat.reduceAdd, Nat.reduceLT, Nat.reduceLeDiff, Nat.reduceBEq, Nat.reduceMul, Nat.reduceSub, Int.reduceToNat, Int.reduceEq, Int.reduceLT, Int.reduceLE, Int.reduceNeg, Int.reduceAdd, Int.reduceSub, Int.reduceMul, Tryz.f106, kr106, kp106_3, ow106_3, ty3, ty4, ty86, ty120, tb4, h, c]
    · refine ⟨lo', 1, ?_⟩
      refine lim_run (fn := Tryz.f106) fn106 rfl body106 (Nat.le_of_ble_eq_true rfl) ok106 ?_
      simp (config := { maxSteps := 1000000 }) (disch := omega) only [push_cast, ↓reduceIte, Nat.reduceEqDiff, Nat.reduceAdd, Nat.reduceLT, Nat.reduceLeDiff, Nat.reduceBEq, Nat.reduceMul, Nat.reduceSub, Int.reduceToNat, Int.reduceEq, Int.reduceLT, Int.reduceLE, Int.reduceNeg, Int.reduceAdd, Int.reduceSub, Int.reduceMul, Tryz.f106, kr106, kp106_3, ow106_3, ty3, ty4, ty86, ty120, tb4, h, c]
    · refine ⟨lo', 2, ?_⟩
      refine lim_run (fn := Tryz.f106) fn106 rfl body106 (Nat.le_of_ble_eq_true rfl) ok106 ?_
      simp (config := { maxSteps := 1000000 }) (disch := omega) only [push_cast, ↓reduceIte, Nat.reduceEqDiff, Nat.reduceAdd, Nat.reduceLT, Nat.reduceLeDiff, Nat.reduceBEq, Nat.reduceMul, Nat.reduceSub, Int.reduceToNat, Int.reduceEq, Int.reduceLT, Int.reduceLE, Int.reduceNeg, Int.reduceAdd, Int.reduceSub, Int.reduceMul, Tryz.f106, kr106, kp106_3, ow106_3, ty3, ty4, ty86, ty120, tb4, h, c]
    · refine ⟨lo', 3, ?_⟩
      refine lim_run (fn := Tryz.f106) fn106 rfl body106 (Nat.le_of_ble_eq_true rfl) ok106 ?_
      simp (config := { maxSteps := 1000000 }) (disch := omega) only [push_cast, ↓reduceIte, Nat.reduceEqDiff, Nat.reduceAdd, Nat.reduceLT, Nat.reduceLeDiff, Nat.reduceBEq, Nat.reduceMul, Nat.reduceSub, Int.reduceToNat, Int.reduceEq, Int.reduceLT, Int.reduceLE, Int.reduceNeg, Int.reduceAdd, Int.reduceSub, Int.reduceMul, Tryz.f106, kr106, kp106_3, ow106_3, ty3, ty4, ty86, ty120, tb4, h, c]
end Go.Proofs.YtnbijiopcgfmfaaGreat.Tev
