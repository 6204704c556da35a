/- Functions that are walked piece by piece: most pieces by the evaluator, those that sort a row of their own by the library's contracts. -/
import Derived.Test.YtnbijiopcgfmfaaTevMut
import Derived.Test.YtnbijiopcgfmfaaTevNil
import Derived.Test.YtnbijiopcgfmfaaQSort
import Derived.Shelf.Sort.Plain
import Derived.Shelf.Slices.CompactI
import Derived.Shelf.Slices.In.SortNone
namespace Go.Proofs.Ytnbijiopcgfmfaa.Tev
open Go Go.RowKit Go.Proofs.Ytnbijiopcgfmfaa.Q
set_option linter.unusedSectionVars false
set_option linter.unusedVariables false
set_option linter.unusedSimpArgs false
/-- One piece of code after the other. -/
def WalkL (P : Program) (m : Nat) (w0 : World) (F0 : Nat → Prop) : List Code → St → (Ex → St → Prop) → Prop
  | [], S, Q => Q Ex.nor S
  | c :: l, S, Q => ∀ (K : Ctx) (a : Act), Inv m w0 F0 K S a → ∀ R : Exit → Act → World → Prop, (∀ (e : Ex) (S' : St) (K' : Ctx) (a' : Act), Inv m w0 F0 K' S' a' → (match e with | Ex.nor => WalkL P m w0 F0 l S' Q | e => Q e S') → R (Ex.conv e) a' K'.w) → c.wp P R a K.w
/-- One operation after the other. -/
def WalkO (P : Program) (m : Nat) (w0 : World) (F0 : Nat → Prop) : List Oper → St → (St → Prop) → Prop
  | [], S, Q => Q S
  | o :: l, S, Q => o.guard = none ∧ ∀ K a, Inv m w0 F0 K S a → ∀ (next : Act → World → Prop) (R : Exit → Act → World → Prop), (∀ S' K' a', Inv m w0 F0 K' S' a' → WalkO P m w0 F0 l S' Q → next a' K'.w) → o.wp P a K.w next R
section
variable {P : Program} {m : Nat} {w0 : World} {F0 : Nat → Prop} {l : List Code} {S : St} {Q : Ex → St → Prop}
theorem walk_seq {x y : Code} (h : WalkL P m w0 F0 (x :: y :: l) S Q) : WalkL P m w0 F0 (.seq x y :: l) S Q := by
  intro K a hi R hR
  refine wp_seq (h K a hi _ fun e S' K' a' hi' hq => ?_)
  cases e with
  | nor => exact hq K' a' hi' R hR
  | exit id => exact hR (.exit id) S' K' a' hi' hq
  | ret => exact hR .ret S' K' a' hi' hq
theorem walk_te {E : Env} {O : Ora} (hm : E.P.follows .mixedOrders = true) (hcl : CallOK E.P O.call) {f : FuncId} {body : Code} (hlp : ∀ w0 F0, LoopOK E m w0 F0 body (O.loop f)) (hnd : nodupB ((loopsOf body).map firstId) = true)
    {c : Code} (hs : ∀ b ∈ loopsOf c, b ∈ loopsOf body) (hok : okCode m c = true) {e : Ex} {S' : St} (ht : exec E O f .nor [.code c] S = some (e, S')) (hq : match (generalizing := false) e with | .nor => WalkL E.P m w0 F0 l S' Q | e => Q e S') : WalkL E.P m w0 F0 (c :: l) S Q := by
  intro K a hi R hR
  rw [exec_te] at ht
  exact te_sound hm hcl (hlp w0 F0) hnd c hs hok S e S' ht K a hi R fun K' a' hi' => hR e S' K' a' hi' hq
theorem walk_ret (hq : Q .ret S) : WalkL P m w0 F0 (.ret :: l) S Q := fun K a hi R hR => wp_ret (hR .ret S K a hi hq)
theorem walk_region {id : Nat} {ops : Array Oper} (h : WalkO P m w0 F0 ops.toList S fun S' => WalkL P m w0 F0 l S' Q) : WalkL P m w0 F0 (.region id ops false :: l) S Q := by
  intro K a hi R hR
  refine wp_region_list ?_
  have key : ∀ (os : List Oper) (S : St) (K : Ctx) (a : Act), Inv m w0 F0 K S a → WalkO P m w0 F0 os S (fun S' => WalkL P m w0 F0 l S' Q) → wpList P ops R os a K.w := by
    intro os
    induction os with
    | nil => intro S K a hi h; exact hR .nor S K a hi h
    | cons o os ih =>
      intro S K a hi h
      obtain ⟨hg, h⟩ := h
      unfold wpList
      rw [if_pos (by simp [Region.wanted, hg])]
      exact .inl (h K a hi _ _ fun S' K' a' hi' hw => ih S' K' a' hi' hw)
  exact key _ S K a hi h
theorem walko_op {E : Env} {cl : FuncId → List T → Option R} (hcl : CallOK E.P cl) {o : Oper} {os : List Oper} {Q : St → Prop} (hg : o.guard = none) (hd : ∀ t, o.dst = some t → t < m) {S' : St} (ho : opA E cl false S o = some S') (h : WalkO E.P m w0 F0 os S' Q) : WalkO E.P m w0 F0 (o :: os) S Q :=
  ⟨hg, fun K a hi next R hn => opA_sound hcl hi hd ho fun K' a' hi' => hn S' K' a' hi' h⟩
/-- Some objects are let go. -/
theorem Inv.kills {K : Ctx} {a : Act} (h : Inv m w0 F0 K S a) {os : List (Nat × Ob)} (ho : ∀ o, obj os o = obj S.o o ∨ (obj os o = some .dead ∧ obj S.o o ≠ none)) : Inv m w0 F0 K { S with o := os } a := { h with
  oi := {
    objs := fun o x s h1 h2 => by
      rcases ho o with h3 | ⟨h3, _⟩
      · have h1' : obj os o = some x := h1
        rw [h3] at h1'; exact h.oi.objs o x s h1' h2
      · have h1' : obj os o = some x := h1
        rw [h3] at h1'; obtain rfl := Option.some.inj h1'; simp only [RO]
    dom := fun o x h1 => by
      have h1' : obj os o = some x := h1
      rcases ho o with h3 | ⟨h3, h4⟩
      · rw [h3] at h1'; exact h.oi.dom o x h1'
      · obtain ⟨y, hy⟩ := Option.ne_none_iff_exists'.1 h4
        exact h.oi.dom o y hy
    alias := fun o o' x x' b sh sh' h1 h2 h3 h4 => by
      have h1' : obj os o = some x := h1
      have h2' : obj os o' = some x' := h2
      rcases ho o with h5 | ⟨h5, _⟩
      · rcases ho o' with h6 | ⟨h6, _⟩
        · rw [h5] at h1'; rw [h6] at h2'
          exact h.oi.alias o o' x x' b sh sh' h1' h2' h3 h4
        · rw [h6] at h2'; obtain rfl := Option.some.inj h2'
          right; cases x <;> simp [Alias]
      · rw [h5] at h1'; obtain rfl := Option.some.inj h1'
        right; cases x' <;> simp [Alias] }
  grp := fun o l g e h1 => by
    have h1' : obj os o = some (.arr l g e) := h1
    rcases ho o with h3 | ⟨h3, _⟩
    · rw [h3] at h1'; exact h.grp o l g e h1'
    · rw [h3] at h1'; simp at h1' }
/-- A call of a function of the program. -/
theorem enter_run {f : FuncId} {fn : Func} (hf1 : P.funcs[f]? = some fn) (hf2 : (fn.name == "runtime.NumGoroutine") = false) (hf3 : fn.body.isNone = false) (a : Act) (args : Array Operand) (ats : Array TypeId) (d : Option Nat) (ty : TypeId) (pos : String) (af : Array Edge) (gg : Option (Nat × Bool)) (w : World) :
    (execOp a.eval ⟨d, .call ⟨.value (.func f), args, ats⟩, ty, pos, af, gg⟩).run P w = .ok (.enter f (args.map a.eval)) w := by
  have e1 : a.eval (.func f) = .func (.func f) #[] #[] := rfl
  simp only [execOp, resolve, e1, Deferred.ofValue, bind, Pure.pure, Sem.bind, invoke, callFunc, program, Sem.run, hf1, hf2, hf3, Bool.false_eq_true, if_false]
  congr 2
  simp
/-- slices.Sort's word. -/
structure SortOK (P : Program) (f : FuncId) : Prop where
  fn : ∃ fn, P.funcs[f]? = some fn ∧ (fn.name == "runtime.NumGoroutine") = false ∧ fn.body.isNone = false
  some : ∀ (blk off cap : Nat) (zs : List Int) (w : World), Sort.Holds encI w blk off zs.toArray → blk < w.heap.size → zs.length < 4611686018427387904 →
    Calls P f #[.slice (.some ⟨blk, off, none⟩) zs.length cap] w fun e w' => e = .returned (.tuple #[]) ∧ ∃ n os, w' = Sort.grow (Sort.putRow encI (Sort.ahead w n) blk off (sortQ zs).toArray) os
  none : ∀ (p : Option Addr) (cap : Nat) (w : World), Calls P f #[.slice p 0 cap] w fun e w' => e = .returned (.tuple #[]) ∧ w' = w
/-- slices.Compact's word. -/
structure CompOK (P : Program) (f : FuncId) : Prop where
  fn : ∃ fn, P.funcs[f]? = some fn ∧ (fn.name == "runtime.NumGoroutine") = false ∧ fn.body.isNone = false
  some : ∀ (blk off cap : Nat) (zs : List Int) (w : World), Sort.Holds encI w blk off zs.toArray → zs.length ≤ 9223372036854775807 → zs.length ≤ cap →
    Calls P f #[.slice (.some ⟨blk, off, Option.none⟩) zs.length cap] w fun e w' => e = .returned (.slice (.some ⟨blk, off, Option.none⟩) (cpt zs).length cap) ∧ ∃ q, w' = Sort.putRow encI (Sort.ahead w q) blk off (cpt zs ++ List.replicate (zs.length - (cpt zs).length) 0).toArray
  none : ∀ (a : Option Addr) (cap : Nat) (w : World), Calls P f #[.slice a 0 cap] w fun e w' => e = .returned (.slice a 0 cap) ∧ w' = w
theorem killset {g p : Nat} {y : Ob} {o : List (Nat × Ob)} (hp : obj o p = some y) (hy : ∃ gen l, y = .arr l g gen) (q : Nat) : obj (killG g p (setO p y o)) q = obj o q ∨ (obj (killG g p (setO p y o)) q = some .dead ∧ obj o q ≠ none) := by
  rw [obj_killG, obj_setO]
  split
  · rename_i e; subst e
    obtain ⟨gen, l, rfl⟩ := hy
    left; rw [hp]; simp [kill1]
  · rename_i hne
    cases hq : obj o q with
    | none => left; rfl
    | some z =>
      cases z with
      | arr l' g' e' =>
        by_cases hg : g' = g
        · right; simp [kill1, hg, hne]
        · left; simp [kill1, hg]
      | _ => left; rfl
/-- The slice of a row of this call's own. -/
theorem own_slice {K : Ctx} {a : Act} (h : Inv m w0 F0 K S a) {t p g gen : Nat} {xs : List Int} {cap : Option Nat} (h1 : get S.t t = .sl p 0 xs.length 1 cap) (h2 : obj S.o p = some (.arr (xs.map CI) g gen)) :
    ∃ A c, a.tmps.getD t undef = .slice A xs.length c ∧ xs.length ≤ c ∧ ((xs = []) ∨ ∃ b sh, K.σ p = some (some (b, sh)) ∧ A = some ⟨b, sh, none⟩) := by
  have ht := h.tm t
  rw [h1] at ht
  simp only [RT] at ht
  obtain ⟨A, c, hv, hc, _, hp⟩ := ht
  refine ⟨A, c, hv, hc, ?_⟩
  rcases hp with ⟨rfl, _⟩ | ⟨b, sh, hs, hA, _⟩
  · exact .inl (List.length_eq_zero_iff.1 (by omega))
  · exact .inr ⟨b, sh, hs, by simpa using hA⟩
theorem walko_sort {f : FuncId} (hf : SortOK P f) {o : Oper} {os : List Oper} {Q : St → Prop} {t : Nat} {ats : Array TypeId} (ho : o.op = .call ⟨.value (.func f), #[.tmp t], ats⟩) (hg : o.guard = none) (hd : ∀ d, o.dst = some d → d < m)
    {p g gen : Nat} {xs : List Int} {cap : Option Nat} (h1 : get S.t t = .sl p 0 xs.length 1 cap) (h2 : obj S.o p = some (.arr (ints xs) g gen)) (hx : xs.length < 4611686018427387904) {S1 : St}
    (hS : St.putO { S with o := killG g p (setO p (.arr (ints (sortQ xs)) g gen) S.o) } o.dst .junk = S1) (h : WalkO P m w0 F0 os S1 Q) : WalkO P m w0 F0 (o :: os) S Q := by
  subst hS
  refine ⟨hg, fun K a hi next R hn => ?_⟩
  obtain ⟨d, op, ty, pos, af, gg⟩ := o
  simp only at ho
  subst ho
  obtain ⟨fn, f1, f2, f3⟩ := hf.fn
  obtain ⟨A, c, hv, hc, hA⟩ := own_slice hi h1 h2
  have he : (#[Operand.tmp t] : Array Operand).map a.eval = #[.slice A xs.length c] := by
    have : a.eval (.tmp t) = .slice A xs.length c := hv
    simp [this]
  unfold Oper.wp
  rw [enter_run f1 f2 f3, Oper.upon_enter, he]
  have fin : ∀ (K' : Ctx), Inv m w0 F0 K' { S with o := killG g p (setO p (.arr (ints (sortQ xs)) g gen) S.o) } a → next (a.put d (.tuple #[])) K'.w := fun K' hi' =>
    hn _ K' _ (hi'.put d hd (x := .junk) (v := .tuple #[]) (by simp only [RT])) h
  rcases hA with rfl | ⟨b, sh, hs, rfl⟩
  · refine (hf.none A c K.w).mono ?_
    rintro e w' ⟨rfl, rfl⟩
    refine fin K (hi.kills fun q => ?_)
    have e1 : ints (sortQ []) = ints [] := by rw [List.length_eq_zero_iff.1 (show (sortQ []).length = 0 from sortQ_len [])]
    rw [e1]
    exact killset h2 ⟨_, _, rfl⟩ q
  · obtain ⟨hH, hlt⟩ := hi.holds h2 hs
    refine (hf.some b sh c xs K.w hH hlt hx).mono ?_
    rintro e w' ⟨rfl, q, os', rfl⟩
    exact fin _ (hi.mutRow h2 hs (sortQ_len xs) q os')
theorem walko_comp {f : FuncId} (hf : CompOK P f) {o : Oper} {os : List Oper} {Q : St → Prop} {t : Nat} {ats : Array TypeId} (ho : o.op = .call ⟨.value (.func f), #[.tmp t], ats⟩) (hg : o.guard = none) (hd : ∀ d, o.dst = some d → d < m)
    {p g gen : Nat} {xs : List Int} {cap : Option Nat} (h1 : get S.t t = .sl p 0 xs.length 1 cap) (h2 : obj S.o p = some (.arr (ints xs) g gen)) (hx : xs.length ≤ 9223372036854775807) {S1 : St}
    (hS : St.putO { S with o := killG g p (setO p (.arr (ints (cpt xs ++ List.replicate (xs.length - (cpt xs).length) 0)) g gen) S.o) } o.dst (.sl p 0 (cpt xs).length 1 none) = S1) (h : WalkO P m w0 F0 os S1 Q) : WalkO P m w0 F0 (o :: os) S Q := by
  subst hS
  refine ⟨hg, fun K a hi next R hn => ?_⟩
  obtain ⟨d, op, ty, pos, af, gg⟩ := o
  simp only at ho
  subst ho
  obtain ⟨fn, f1, f2, f3⟩ := hf.fn
  obtain ⟨A, c, hv, hc, hA⟩ := own_slice hi h1 h2
  have he : (#[Operand.tmp t] : Array Operand).map a.eval = #[.slice A xs.length c] := by
    have : a.eval (.tmp t) = .slice A xs.length c := hv
    simp [this]
  have hle := cpt_le xs
  unfold Oper.wp
  rw [enter_run f1 f2 f3, Oper.upon_enter, he]
  have fin : ∀ (K' : Ctx), Inv m w0 F0 K' { S with o := killG g p (setO p (.arr (ints (cpt xs ++ List.replicate (xs.length - (cpt xs).length) 0)) g gen) S.o) } a → next (a.put d (.slice A (cpt xs).length c)) K'.w := fun K' hi' => by
    refine hn _ K' _ (hi'.put d hd (x := .sl p 0 (cpt xs).length 1 none) (v := .slice A (cpt xs).length c) ?_) h
    have ht := hi'.tm t
    have ht : RT K' (get S.t t) (a.tmps.getD t undef) := ht
    rw [h1, hv] at ht
    simp only [RT] at ht ⊢
    obtain ⟨A', c', hv', hc', _, hp⟩ := ht
    simp only [Value.slice.injEq, true_and] at hv'
    obtain ⟨rfl, rfl⟩ := hv'
    exact ⟨A, c, rfl, by omega, fun k hk => by simp at hk, hp⟩
  rcases hA with rfl | ⟨b, sh, hs, rfl⟩
  · refine (hf.none A c K.w).mono ?_
    rintro e w' ⟨rfl, rfl⟩
    exact fin K (hi.kills fun q => killset h2 ⟨_, _, rfl⟩ q)
  · obtain ⟨hH, hlt⟩ := hi.holds h2 hs
    refine (hf.some b sh c xs K.w hH hx hc).mono ?_
    rintro e w' ⟨rfl, q, rfl⟩
    have := hi.mutRow h2 hs (ys := cpt xs ++ List.replicate (xs.length - (cpt xs).length) 0) (by simp; omega) q #[]
    rw [Sort.grow_empty] at this
    exact fin _ this
/-- A function whose body has been walked. -/
theorem walk_fun {E : Env} {f : FuncId} {fn : Func} {body : Code} (hf : E.P.funcs[f]? = some fn) (hname : (fn.name == "runtime.NumGoroutine") = false) (hb : fn.body = some body) {xs : List T} {r : R} (hlen : xs.length ≤ fn.ntmps)
    (H : ∀ w F, WalkL E.P fn.ntmps w F [body] ⟨params 0 xs, [], 0⟩ fun e S' => (e = .nor ∨ e = .ret) ∧ retT E.P fn.results.toList fn.resultTypes.toList S' = some r) :
    (∃ fn, E.P.funcs[f]? = some fn ∧ (fn.name == "runtime.NumGoroutine") = false ∧ fn.body.isNone = false) ∧
    ∀ (w : World) (F : Nat → Prop) (us : List Value), (∀ b, F b → b < w.heap.size) → RTs ⟨w, F, w.heap.size, fun _ => none⟩ xs us →
      Calls E.P f us.toArray w fun e w' => ∃ v, e = .returned v ∧ Below w.heap.size w w' ∧ ResOK F w w' r.1 r.2 v := by
  refine ⟨⟨fn, hf, hname, by rw [hb]; rfl⟩, fun w F us hF hr => ?_⟩
  have hul := RTs_length _ _ hr
  have hI : Inv fn.ntmps w F ⟨w, F, w.heap.size, fun _ => none⟩ ⟨params 0 xs, [], 0⟩ { tmps := us.toArray ++ Array.replicate (fn.ntmps - us.toArray.size) undef, defers := [] } := {
    good := ⟨hF, Nat.le_refl _⟩
    base := rfl
    below := Below.refl _ _
    Fin := fun _ h => h
    Fout := fun _ h => .inl h
    size := by simp; omega
    defers := rfl
    tm := fun t => by
      show RT _ (get (params 0 xs) t) _
      rw [params_get]
      simp only [Nat.zero_le, if_true, Nat.sub_zero]
      cases hx : xs[t]? with
      | none => simp only [Option.getD_none, RT]
      | some x =>
        obtain ⟨u, hu, r⟩ := RTs_get _ _ _ _ hr hx
        have hlt : t < us.length := by rcases Nat.lt_or_ge t us.length with h' | h'; exact h'; simp [h'] at hu
        simp only [Option.getD_some, Array.getD_eq_getD_getElem?]
        rw [Array.getElem?_append_left (by simpa using hlt)]
        simp only [List.getElem?_toArray, hu, Option.getD_some]
        exact r
    oi := ⟨fun o x s h => by simp [obj] at h, fun o x h => by simp [obj] at h, fun o o' x x' b sh sh' h => by simp [obj] at h⟩
    fresh := fun _ _ => rfl
    grp := fun o l g e h => by simp [obj] at h }
  refine calls_of_wp hf hb (H w F _ _ hI _ fun e S' K' a' hi hq => ?_)
  have hq : (e = .nor ∨ e = .ret) ∧ retT E.P fn.results.toList fn.resultTypes.toList S' = some r := by cases e <;> exact hq
  obtain ⟨v, hrun, hres⟩ := retT_sound hi hq.2
  rcases hq.1 with rfl | rfl
  · exact ⟨hi.defers, v, hrun, v, rfl, hi.below, hres⟩
  · exact ⟨hi.defers, v, hrun, v, rfl, hi.below, hres⟩
end
/-- A loop of the evaluator without a count of rounds. -/
theorem lim_loopOK {E : Env} {pr : FuncId → List T → Option R} (hm : E.P.follows .mixedOrders = true) (hpr : CallOK E.P pr) {f : FuncId} {fn : Func} {body : Code} (hf : E.P.funcs[f]? = some fn) (hb : fn.body = some body) (hok : okFunc fn = true) :
    ∀ w0 F0, LoopOK E fn.ntmps w0 F0 body ((lim E pr).loop f) := by
  intro w0 F0 id S e S' h
  obtain ⟨n, hn⟩ := lim_loop.1 h
  exact ora_loop hm hf hb hok n (fun k _ => ora_sound hm hpr k) w0 F0 id S e S' hn
end Go.Proofs.Ytnbijiopcgfmfaa.Tev
