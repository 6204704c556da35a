/- A function that begins by asking whether its slice is nil (slices.Clone): both ways lead to the same answer. -/
import Derived.Test.YtnbijiopcgfmfaaTevSl
import Derived.Lib.SliceRun
namespace Go.Proofs.Ytnbijiopcgfmfaa.Tev
open Go Go.RowKit
set_option linter.unusedSectionVars false
set_option linter.unusedSimpArgs false
set_option linter.unusedVariables false
theorem exec_te (E : Env) (O : Ora) (f : FuncId) (c : Code) (S : St) : exec E O f .nor [.code c] S = te E O f c S := by
  simp only [exec]
  cases te E O f c S with
  | none => rfl
  | some r => obtain ⟨e, S'⟩ := r; exact exec_nil (E := E) (O := O) (f := f) e S'
def none2 : Ora := ⟨fun _ _ => none, fun _ _ _ => none⟩
theorem none2_ok (P : Program) : CallOK P none2.call := fun f ts r h => by simp [none2] at h
def sA : Code → Code
  | .seq a _ => a
  | c => c
def sB : Code → Code
  | .seq _ b => b
  | c => c
def cX : Code → Code
  | .cond _ a _ => a
  | c => c
def opAt (i : Nat) : Code → Oper
  | .region _ o _ => o[i]?.getD default
  | _ => default
theorem nil_eql_run {P : Program} {w : World} {a : Act} {dd : Option Nat} {t t2 ty e : TypeId} {y : Operand} {pos : String} {af : Array Edge} {gg : Option (Nat × Bool)} {A : Option Addr} {n c : Nat} (e1 : a.eval y = .slice A n c) (ht : P.underlying t = some (.slice e)) :
    (execOp a.eval ⟨dd, .binOp .eql t y (.const (.slice none 0 0)) t2, ty, pos, af, gg⟩).run P w = .ok (.value (.bool A.isNone)) w := by
  have e2 : a.eval (.const (.slice none 0 0)) = .slice none 0 0 := rfl
  have e3 := Go.Lib.run_eql_slice_nil (P := P) w t e A n c 0 0 ht
  simp only [execOp, e1, e2, eqGuard, bind, Pure.pure, Sem.run_bind', Result.andThen]
  have h0 : Sem.run P (if (!true) = true then Sem.pure () else Sem.pure ()) w = .ok () w := rfl
  rw [h0]
  dsimp only
  rw [e3]
  rfl
/-- The end of a function, at a return alone. -/
def finR (P : Program) (rs : List ResultVar) (ts : List TypeId) (r : Option (Ex × St)) : Option R :=
  match r with
  | some (.ret, S) => retT P rs ts S
  | _ => none
theorem finR_ret (P : Program) (rs : List ResultVar) (ts : List TypeId) (S : St) : finR P rs ts (some (.ret, S)) = retT P rs ts S := rfl
theorem finR_inv {E : Env} {O : Ora} {f : FuncId} {c : Code} {S : St} {rs : List ResultVar} {ts : List TypeId} {r : R} (h : finR E.P rs ts (exec E O f .nor [.code c] S) = some r) : ∃ S2, te E O f c S = some (.ret, S2) ∧ retT E.P rs ts S2 = some r := by
  rw [exec_te] at h
  cases hc : te E O f c S with
  | none => rw [hc] at h; simp [finR] at h
  | some p =>
    obtain ⟨e, S2⟩ := p
    rw [hc] at h
    cases e with
    | nor => simp [finR] at h
    | ret => exact ⟨_, rfl, h⟩
    | exit i => simp [finR] at h
theorem nil_calls {E : Env} (hm : E.P.follows .mixedOrders = true) {f : FuncId} {fn : Func} (hf : E.P.funcs[f]? = some fn) (hname : (fn.name == "runtime.NumGoroutine") = false) {R0 A B : Code} {id : Nat} {o1 o2 : Oper} {d1 d2 s : Nat} {t t2 e : TypeId}
    (hb : fn.body = some (.seq R0 (.seq (.seq (.region id #[o1, o2] false) (.cond (.tmp d2) A .skip)) B)))
    (h1 : o1.op = .move (.tmp s)) (h2 : o1.dst = some d1) (h3 : o1.guard = none) (h4 : o2.op = .binOp .eql t (.tmp d1) (.const (.slice none 0 0)) t2) (h5 : o2.dst = some d2) (h6 : o2.guard = none) (ht : E.P.underlying t = some (.slice e))
    (hd1 : d1 < fn.ntmps) (hd2 : d2 < fn.ntmps) (hn : 1 ≤ fn.ntmps) (k1 : okCode fn.ntmps R0 = true) (k2 : okCode fn.ntmps A = true) (k3 : okCode fn.ntmps B = true) (n1 : loopsOf R0 = []) (n2 : loopsOf A = []) (n3 : loopsOf B = [])
    {S1 : St} {x : T} {k : Nat} {l : List C} {r : R} (hx : ∃ b cap, x = SL b cap k l) (g0 : te E none2 f R0 ⟨params 0 [x], [], 0⟩ = some (.nor, S1)) (g1 : get S1.t s = x)
    (gt : k = 0 → l = [] → finR E.P fn.results.toList fn.resultTypes.toList (exec E none2 f .nor [.code A] ((S1.put d1 x).put d2 (Tev.B true))) = some r)
    (gf : finR E.P fn.results.toList fn.resultTypes.toList (exec E none2 f .nor [.code B] ((S1.put d1 x).put d2 (Tev.B false))) = some r) :
    (∃ fn, E.P.funcs[f]? = some fn ∧ (fn.name == "runtime.NumGoroutine") = false ∧ fn.body.isNone = false) ∧
    ∀ (w : World) (F : Nat → Prop) (us : List Value), (∀ b, F b → b < w.heap.size) → RTs ⟨w, F, w.heap.size, fun _ => none⟩ [x] us →
      Calls E.P f us.toArray w fun e w' => ∃ v, e = .returned v ∧ Below w.heap.size w w' ∧ ResOK F w w' r.1 r.2 v := by
  refine ⟨⟨fn, hf, hname, by rw [hb]; rfl⟩, fun w F us hF hr => ?_⟩
  have hul := RTs_length _ _ hr
  have hI : Inv fn.ntmps w F ⟨w, F, w.heap.size, fun _ => none⟩ ⟨params 0 [x], [], 0⟩ { tmps := us.toArray ++ Array.replicate (fn.ntmps - us.toArray.size) undef, defers := [] } := {
    good := ⟨hF, Nat.le_refl _⟩
    base := rfl
    below := Below.refl _ _
    Fin := fun _ h => h
    Fout := fun _ h => .inl h
    size := by simp at hul ⊢; omega
    defers := rfl
    tm := fun t => by
      show RT _ (get (params 0 [x]) t) _
      rw [params_get]
      simp only [Nat.zero_le, if_true, Nat.sub_zero]
      cases hx : [x][t]? with
      | none => simp only [Option.getD_none, RT]
      | some x' =>
        obtain ⟨u, hu, r⟩ := RTs_get _ _ _ _ hr hx
        have hlt : t < us.length := by rcases Nat.lt_or_ge t us.length with h' | h'; exact h'; simp [h'] at hu
        simp only [Option.getD_some, Array.getD_eq_getD_getElem?]
        rw [Array.getElem?_append_left (by simpa using hlt)]
        simp only [List.getElem?_toArray, hu, Option.getD_some]
        exact r
    oi := ⟨fun o x s h => by simp [obj] at h, fun o x h => by simp [obj] at h, fun o o' x x' b sh sh' h => by simp [obj] at h⟩
    fresh := fun _ _ => rfl
    grp := fun o l g e h => by simp [obj] at h }
  have lok : ∀ w0 F0, LoopOK E fn.ntmps w0 F0 .skip (none2.loop f) := fun w0 F0 id S e S' h => by simp [none2] at h
  have snd := fun (c : Code) (hc : loopsOf c = []) (hk : okCode fn.ntmps c = true) (S : St) (e : Ex) (S' : St) (he : te E none2 f c S = some (e, S')) =>
    te_sound (E := E) (O := none2) hm (none2_ok _) (f := f) (body := .skip) (lok w F) rfl c (by rw [hc]; intro b hb; simp at hb) hk S e S' he
  refine calls_of_wp hf hb (wp_seq (snd R0 n1 k1 _ _ _ g0 _ _ hI _ fun K1 a1 hi1 => ?_))
  refine wp_seq (wp_seq (wp_region_list ?_))
  -- the slice, and whether it is nil
  have hs : RT K1 x (a1.tmps.getD s undef) := by have := hi1.tm s; rw [g1] at this; exact this
  have hi2 := hi1.put (some d1) (by intro t e; cases e; exact hd1) hs
  have hsl : ∃ A' c, a1.tmps.getD s undef = .slice A' k c ∧ (A' = none → k = 0 ∧ l = []) := by
    obtain ⟨b, cap, rfl⟩ := hx
    cases b with
    | true =>
      simp only [SL, RT, RC] at hs
      obtain ⟨A', c, e, _, _, h⟩ := hs
      exact ⟨A', c, e, fun q => by rcases h with h | ⟨_, _, h, _⟩; exact h; rw [q] at h; simp at h⟩
    | false =>
      simp only [SL, RT] at hs
      obtain ⟨A', c, e, _, _, h⟩ := hs
      exact ⟨A', c, e, fun q => by rcases h with h | ⟨_, _, h, _⟩; exact h; rw [q] at h; simp at h⟩
  obtain ⟨A', c', hv, hnone⟩ := hsl
  have hput : (a1.put (some d1) (a1.tmps.getD s undef)).tmps.getD d1 undef = .slice A' k c' := by
    rw [getD_put _ _ _ _ (by rw [hi1.size]; exact hd1), if_pos rfl, hv]
  have hq : (execOp (a1.put (some d1) (a1.tmps.getD s undef)).eval o2).run E.P K1.w = .ok (.value (.bool A'.isNone)) K1.w := by
    obtain ⟨dd, op, ty, pos, af, gg⟩ := o2
    simp only at h4
    subst h4
    have e1 : (a1.put (some d1) (a1.tmps.getD s undef)).eval (.tmp d1) = .slice A' k c' := hput
    exact nil_eql_run e1 ht
  have hi3 := fun b => hi2.put (some d2) (by intro t e; cases e; exact hd2) (x := Tev.B b) (v := .bool b) (by simp only [RT, RC]; exact ⟨trivial, rfl⟩)
  have fin : ∀ (K' : Ctx) (a' : Act) (S2 : St), Inv fn.ntmps w F K' S2 a' → retT E.P fn.results.toList fn.resultTypes.toList S2 = some r → (bodyPost E.P fn (fun e w' => ∃ v, e = .returned v ∧ Below w.heap.size w w' ∧ ResOK F w w' r.1 r.2 v) .ret a' K'.w) := by
    intro K' a' S2 hi hS
    obtain ⟨v, hrun, hres⟩ := retT_sound hi hS
    exact ⟨hi.defers, v, hrun, v, rfl, hi.below, hres⟩
  unfold wpList
  rw [if_pos (by simp [Region.wanted, h3])]
  refine .inl ?_
  have hmv : (execOp a1.eval o1).run E.P K1.w = .ok (.value (a1.tmps.getD s undef)) K1.w := by
    obtain ⟨dd, op, ty, pos, af, gg⟩ := o1
    simp only at h1
    subst h1
    rfl
  unfold Oper.wp
  rw [hmv, Oper.upon_value, h2]
  unfold wpList
  rw [if_pos (by simp [Region.wanted, h6])]
  refine .inl ?_
  unfold Oper.wp
  rw [hq, Oper.upon_value, h5]
  unfold wpList
  have hbv : ((a1.put (some d1) (a1.tmps.getD s undef)).put (some d2) (.bool A'.isNone)).eval (.tmp d2) = .bool A'.isNone := by
    show ((a1.put (some d1) (a1.tmps.getD s undef)).put (some d2) (.bool A'.isNone)).tmps.getD d2 undef = _
    rw [getD_put _ _ _ _ (by rw [hi2.size]; exact hd2), if_pos rfl]
  refine wp_cond hbv ?_
  cases A' with
  | none =>
    obtain ⟨z1, z2⟩ := hnone rfl
    obtain ⟨S2, q1, q3⟩ := finR_inv (gt z1 z2)
    exact snd A n2 k2 _ _ _ q1 _ _ (hi3 true) _ fun K' a' hi' => fin K' a' S2 hi' q3
  | some ad =>
    obtain ⟨S2, q1, q3⟩ := finR_inv gf
    exact wp_skip (snd B n3 k3 _ _ _ q1 _ _ (hi3 false) _ fun K' a' hi' => fin K' a' S2 hi' q3)
end Go.Proofs.Ytnbijiopcgfmfaa.Tev
