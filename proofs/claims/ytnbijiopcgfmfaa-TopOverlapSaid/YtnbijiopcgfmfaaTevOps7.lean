/- Calls. -/
import Derived.Test.YtnbijiopcgfmfaaTevOps6
namespace Go.Proofs.Ytnbijiopcgfmfaa.Tev
open Go Go.RowKit
set_option linter.unusedSectionVars false
set_option linter.unusedVariables false
set_option linter.unusedSimpArgs false

/-- What a call leaves: the value, and the rows that come with it. -/
def ResOK (F : Nat → Prop) (w w' : World) (x : T) (ls : List (List C)) (v : Value) : Prop :=
  ∃ (F' : Nat → Prop) (pl : Nat → Option (Nat × Nat)), (∀ b, F b → F' b) ∧ (∀ b, F' b → F b ∨ (w.heap.size ≤ b ∧ b < w'.heap.size)) ∧
    (∀ (n base : Nat) (σ : Nat → Option (Option (Nat × Nat))), (∀ k, k < ls.length → σ (n + k) = some (pl k)) → RT ⟨w', F', base, σ⟩ (lift n x) v) ∧
    (∀ k l, ls[k]? = some l → (pl k = none ∧ l = []) ∨ ∃ b sh cs e, pl k = some (b, sh) ∧ ¬ F' b ∧ w.heap.size ≤ b ∧ w'.heap[b]? = some (.cells cs e (0, 0)) ∧ RCs w' F' b sh l) ∧
    (∀ i j b sh sh', i < ls.length → j < ls.length → pl i = some (b, sh) → pl j = some (b, sh') → i = j)
/-- A function of the program, told by its trees. -/
def CallOK (P : Program) (cl : FuncId → List T → Option R) : Prop := ∀ f ts r, cl f ts = some r →
  (∃ fn, P.funcs[f]? = some fn ∧ (fn.name == "runtime.NumGoroutine") = false ∧ fn.body.isNone = false) ∧
  ∀ (w : World) (F : Nat → Prop) (us : List Value), (∀ b, F b → b < w.heap.size) → RTs ⟨w, F, w.heap.size, fun _ => none⟩ ts us →
    Calls P f us.toArray w fun e w' => ∃ v, e = .returned v ∧ Below w.heap.size w w' ∧ ResOK F w w' r.1 r.2 v

section
variable {P : Program} {K : Ctx} {n : Nat} {ob : Nat → Option Ob} {a : Act}
/-- The context in which a callee begins. -/
def Ctx.callee (K : Ctx) : Ctx := ⟨K.w, K.F, K.w.heap.size, fun _ => none⟩
theorem snapC_sound (hg : Good K) (hobj : ∀ o x s, ob o = some x → K.σ o = some s → RO K s x) {S : St} (hob : ob = obj S.o) {x : T} {y : U} {u : Value} (h : snapC S x = some y) (r : RT K x u) : RU K.callee y u := by
  unfold snapC at h
  split at h
  · rename_i o off k sz cap
    simp only [RT] at r
    obtain ⟨A, c, e, hc, hex, h4⟩ := r
    split at h
    · rename_i l g gen ho
      obtain rfl := Option.some.inj h
      simp only [RU]
      refine ⟨A, c, e, hc, hex, ?_⟩
      rcases h4 with ⟨rfl, _⟩ | ⟨b, sh, hs, rfl, cs, ee, fr, hb, _⟩
      · exact .inl ⟨by omega, by rw [show k = 0 by omega, Nat.zero_mul, rowAt_zero]⟩
      · have hro := hobj o _ _ (by rw [hob]; exact ho) hs
        simp only [RO] at hro
        rcases hro with ⟨h, _⟩ | ⟨b', sh', cs', et, h5, _, _, _, h6⟩
        · simp at h
        · obtain ⟨rfl, rfl⟩ := Prod.mk.inj (Option.some.inj h5)
          exact .inr ⟨b, _, rfl, heap_lt hb, RCs_row h6 _ _⟩
    · rename_i l ho
      obtain rfl := Option.some.inj h
      simp only [RU, RC]
      refine ⟨A, c, e, hc, hex, ?_⟩
      rcases h4 with ⟨rfl, _⟩ | ⟨b, sh, hs, rfl, cs, ee, fr, hb, _⟩
      · exact .inl ⟨by omega, by rw [show k = 0 by omega, Nat.zero_mul, rowAt_zero]⟩
      · have hro := hobj o _ _ (by rw [hob]; exact ho) hs
        simp only [RO] at hro
        rcases hro with ⟨h, _⟩ | ⟨b', sh', h5, h7, h6⟩
        · simp at h
        · obtain ⟨rfl, rfl⟩ := Prod.mk.inj (Option.some.inj h5)
          exact .inr ⟨b, _, rfl, h7, RCs_row h6 _ _⟩
    · simp at h
  · obtain rfl := Option.some.inj h; simp only [RT] at r; simp only [RU]; exact r
  · obtain rfl := Option.some.inj h; simp only [RT] at r; simp only [RU]
    obtain ⟨A, c, e, h1, h2, h4⟩ := r
    exact ⟨A, c, e, h1, h2, h4.imp id fun ⟨b, o, e, hb, hr⟩ => ⟨b, o, e, Nat.lt_of_lt_of_le hb hg.base, hr⟩⟩
  · rename_i p l off
    obtain rfl := Option.some.inj h; simp only [RT] at r; simp only [RU]
    obtain ⟨b, s, e, h1, h2⟩ := r
    refine ⟨b, s, e, ?_, h2⟩
    cases p <;> simp only [Bool.false_eq_true, if_false, if_true] at h1 ⊢
    · exact Nat.lt_of_lt_of_le h1 hg.base
    · exact h1
  · rename_i o
    simp only [RT] at r
    obtain ⟨b, sh, hs, e⟩ := r
    split at h
    · rename_i es cl ho
      obtain rfl := Option.some.inj h
      have hro := hobj o _ _ (by rw [hob]; exact ho) hs
      simp only [RO] at hro
      obtain ⟨b', ents, h5, _, _, h6, h7, _⟩ := hro
      obtain ⟨rfl, rfl⟩ := Prod.mk.inj (Option.some.inj h5)
      simp only [RU]
      exact ⟨b, ents, cl, e, heap_lt h6, h6, h7⟩
    · simp at h
  · obtain rfl := Option.some.inj h
    simp only [RT] at r; simp only [RU]
    obtain ⟨b, ents, cl, h1, h2, h3⟩ := r
    exact ⟨b, ents, cl, h1, Nat.lt_of_lt_of_le h2 hg.base, h3⟩
  · obtain rfl := Option.some.inj h; simp only [RU]
  · simp at h
theorem RU_callee {x : U} {u : Value} (hg : Good K) (r : RU K x u) : RU K.callee x u := by
  cases x with
  | c x => simp only [RU] at r ⊢; exact r
  | junk => simp only [RU]
  | tmp cap k l =>
    simp only [RU] at r ⊢
    obtain ⟨A, c, e, h1, h2, h4⟩ := r
    exact ⟨A, c, e, h1, h2, h4.imp id fun ⟨b, o, e, hb, hr⟩ => ⟨b, o, e, Nat.lt_of_lt_of_le hb hg.base, hr⟩⟩
  | rp p l off =>
    simp only [RU] at r ⊢
    obtain ⟨b, s, e, h1, h2⟩ := r
    refine ⟨b, s, e, ?_, h2⟩
    cases p <;> simp only [Bool.false_eq_true, if_false, if_true] at h1 ⊢
    · exact Nat.lt_of_lt_of_le h1 hg.base
    · exact h1
  | ms es =>
    simp only [RU] at r ⊢
    obtain ⟨b, ents, cl, h1, h2, h3⟩ := r
    exact ⟨b, ents, cl, h1, Nat.lt_of_lt_of_le h2 hg.base, h3⟩
theorem RBs_callee (hg : Good K) (b : Nat) : ∀ (o : Nat) (l : List U), RBs K b o l → RBs K.callee b o l
  | _, [], _ => by simp only [RBs]
  | o, x :: l, h => by
    simp only [RBs] at h ⊢
    obtain ⟨⟨u, h1, h2⟩, h3⟩ := h
    exact ⟨⟨u, h1, RU_callee hg h2⟩, RBs_callee hg b (o + 1) l h3⟩
theorem RBs_mk {b : Nat} {cs : Array Value} {e : TypeId} {fr : Nat × Nat} (hb : K.w.heap[b]? = some (.cells cs e fr)) : ∀ (o : Nat) (l : List U),
    (∀ (i : Nat) (x : U), l[i]? = some x → ∃ u, cs[o + i]? = some u ∧ RU K x u) → RBs K b o l
  | _, [], _ => by simp only [RBs]
  | o, x :: l, h => by
    simp only [RBs]
    obtain ⟨u, h1, h2⟩ := h 0 x rfl
    exact ⟨⟨u, by simp [World.cell?, hb]; simpa using h1, h2⟩, RBs_mk hb (o + 1) l fun i y hy => by simpa [Nat.add_assoc, Nat.add_comm 1] using h (i + 1) y (by simpa using hy)⟩
theorem snapP_sound (hg : Good K) (hobj : ∀ o x s, ob o = some x → K.σ o = some s → RO K s x) {S : St} (hob : ob = obj S.o) {x y : T} {u : Value} (h : snapP S x = some y) (r : RT K x u) : RT K.callee y u := by
  unfold snapP at h
  split at h
  · rename_i o off
    simp only [RT] at r
    obtain ⟨b, sh, hs, e⟩ := r
    split at h
    · rename_i l ho
      obtain ⟨l', h1, rfl⟩ := Option.map_eq_some_iff.1 h
      have hro := hobj o _ _ (by rw [hob]; exact ho) hs
      simp only [RO] at hro
      obtain ⟨b', cs, et, h5, _, _, h6, h7⟩ := hro
      obtain ⟨rfl, rfl⟩ := Prod.mk.inj (Option.some.inj h5)
      simp only [RT]
      refine ⟨b, by simpa using e, heap_lt h6, RBs_mk (K := K.callee) h6 0 l' fun i x hx => ?_⟩
      obtain ⟨h8, h9⟩ := mapO_get h1
      have hi : i < l.length := by rw [← h8]; rcases Nat.lt_or_ge i l'.length with h' | h'; exact h'; simp [h'] at hx
      obtain ⟨x', hx', hf⟩ := h9 i l[i] (List.getElem?_eq_getElem hi)
      rw [hx] at hx'; obtain rfl := Option.some.inj hx'
      obtain ⟨u, hu, hr⟩ := RTs_get _ _ i _ h7 (List.getElem?_eq_getElem hi)
      exact ⟨u, by simpa using hu, snapC_sound hg hobj hob hf hr⟩
    · rename_i l g gen ho
      obtain rfl := Option.some.inj h
      have hro := hobj o _ _ (by rw [hob]; exact ho) hs
      simp only [RO] at hro
      rcases hro with ⟨h, _⟩ | ⟨b', sh', cs', et, h5, _, _, h8, h6⟩
      · simp at h
      · obtain ⟨rfl, rfl⟩ := Prod.mk.inj (Option.some.inj h5)
        simp only [RT]
        exact ⟨b, sh, e, by simp only [Bool.false_eq_true, if_false]; exact heap_lt h8, h6⟩
    · rename_i l ho
      obtain rfl := Option.some.inj h
      have hro := hobj o _ _ (by rw [hob]; exact ho) hs
      simp only [RO] at hro
      rcases hro with ⟨h, _⟩ | ⟨b', sh', h5, h7, h6⟩
      · simp at h
      · obtain ⟨rfl, rfl⟩ := Prod.mk.inj (Option.some.inj h5)
        simp only [RT]
        exact ⟨b, sh, e, by simp only [if_true]; exact h7, h6⟩
    · simp at h
  · obtain rfl := Option.some.inj h
    simp only [RT] at r ⊢
    obtain ⟨b, h1, h2, h3⟩ := r
    exact ⟨b, h1, Nat.lt_of_lt_of_le h2 hg.base, RBs_callee hg b 0 _ h3⟩
  · obtain ⟨y', h1, rfl⟩ := Option.map_eq_some_iff.1 h
    exact RU_toT.2 (snapC_sound hg hobj hob h1 r)
theorem mapO_RTs {K K' : Ctx} {f : T → Option T} (hf : ∀ x y u, f x = some y → RT K x u → RT K' y u) : ∀ {l : List T} {l' : List T} {us : List Value}, mapO f l = some l' → RTs K l us → RTs K' l' us
  | [], l', us, h, r => by simp [mapO] at h; subst h; simpa only [RTs] using r
  | x :: l, l', us, h, r => by
    simp only [mapO] at h
    obtain ⟨y, h1, h⟩ := Option.bind_eq_some_iff.1 h
    obtain ⟨z, h2, rfl⟩ := Option.map_eq_some_iff.1 h
    simp only [RTs] at r ⊢
    obtain ⟨u, vs, rfl, r1, r2⟩ := r
    exact ⟨u, vs, rfl, hf _ _ _ h1 r1, mapO_RTs hf h2 r2⟩
theorem mapO_RUs {K K' : Ctx} {f : T → Option U} (hf : ∀ x y u, f x = some y → RT K x u → RU K' y u) : ∀ {l : List T} {l' : List U} {us : List Value}, mapO f l = some l' → RTs K l us → RTs K' (l'.map U.toT) us
  | [], l', us, h, r => by simp [mapO] at h; subst h; simpa only [RTs, List.map_nil] using r
  | x :: l, l', us, h, r => by
    simp only [mapO] at h
    obtain ⟨y, h1, h⟩ := Option.bind_eq_some_iff.1 h
    obtain ⟨z, h2, rfl⟩ := Option.map_eq_some_iff.1 h
    simp only [RTs, List.map_cons] at r ⊢
    obtain ⟨u, vs, rfl, r1, r2⟩ := r
    exact ⟨u, vs, rfl, RU_toT.2 (hf _ _ _ h1 r1), mapO_RUs hf h2 r2⟩
theorem snap_sound (hg : Good K) (hobj : ∀ o x s, ob o = some x → K.σ o = some s → RO K s x) {S : St} (hob : ob = obj S.o) {x y : T} {u : Value} (h : snap S x = some y) (r : RT K x u) : RT K.callee y u := by
  unfold snap at h
  split at h
  · obtain ⟨l', h1, rfl⟩ := Option.map_eq_some_iff.1 h
    simp only [RT] at r ⊢
    obtain ⟨cs, e, hl⟩ := r
    exact ⟨cs, e, mapO_RUs (fun x y u h r => snapC_sound hg hobj hob h r) h1 hl⟩
  · obtain ⟨l', h1, rfl⟩ := Option.map_eq_some_iff.1 h
    simp only [RT] at r ⊢
    obtain ⟨cs, e, hl⟩ := r
    exact ⟨cs, e, mapO_RTs (fun x y u h r => snapP_sound hg hobj hob h r) h1 hl⟩
  · exact snapP_sound hg hobj hob h r
theorem arrs_get : ∀ (n : Nat) (ls : List (List C)) (i : Nat), (arrs n ls)[i]? = (ls[i]?).map fun l => Ob.arr l (n + i) 1
  | n, [], i => by simp [arrs]
  | n, l :: ls, 0 => by simp [arrs]
  | n, l :: ls, i + 1 => by simp only [arrs, List.getElem?_cons_succ]; rw [arrs_get (n + 1) ls i]; congr 1; funext l; congr 1; omega
theorem arrs_length (n : Nat) : ∀ (ls : List (List C)), (arrs n ls).length = ls.length := by
  intro ls; induction ls generalizing n with
  | nil => rfl
  | cons l ls ih => simp [arrs, ih]
theorem Step.call (hg : Good K) {x : T} {ls : List (List C)} {v : Value} {w' : World} (hn : ∀ i, i < ls.length → K.σ (n + i) = none) (hb : Below K.w.heap.size K.w w') (hr : ResOK K.F K.w w' x ls v) :
    ∃ K', K'.w = w' ∧ Step K n ob (lift n x) (arrs n ls) [] K' v := by
  obtain ⟨F', pl, h1, h2, h3, h4, h5⟩ := hr
  let σ' : Nat → Option (Option (Nat × Nat)) := fun o => if n ≤ o ∧ o < n + ls.length then some (pl (o - n)) else K.σ o
  have hσ : ∀ k, k < ls.length → σ' (n + k) = some (pl k) := fun k hk => by
    show (if n ≤ n + k ∧ n + k < n + ls.length then some (pl (n + k - n)) else _) = _
    rw [if_pos (by omega), show n + k - n = k by omega]
  refine ⟨⟨w', F', K.base, σ'⟩, rfl, ?_⟩
  exact {
    ext := {
      base := rfl
      F := h1
      σ := fun o s h => by
        show (if n ≤ o ∧ o < n + ls.length then some (pl (o - n)) else _) = _
        split
        · rename_i hc
          have := hn (o - n) (by omega)
          rw [show n + (o - n) = o by omega, h] at this; simp at this
        · exact h
      kept := fun b h => hb.block b (h.elim (hg.F b) fun h => Nat.lt_of_lt_of_le h hg.base)
      sizes := fun b cs e fr h => ⟨cs, e, fr, (hb.block b (heap_lt h)).trans h, rfl⟩ }
    below := hb.mono hg.base
    val := h3 n K.base σ' hσ
    new := fun i y h => by
      rw [arrs_get] at h
      obtain ⟨l, hl, rfl⟩ := Option.map_eq_some_iff.1 h
      have hi : i < ls.length := by rcases Nat.lt_or_ge i ls.length with h' | h'; exact h'; simp [h'] at hl
      refine ⟨pl i, hσ i hi, ?_⟩
      simp only [RO]
      refine (h4 i l hl).imp id ?_
      rintro ⟨b, sh, cs, e, q1, q2, q3, q4, q5⟩
      exact ⟨b, sh, cs, e, q1, q2, Nat.le_trans hg.base q3, q4, q5⟩
    dom := fun o s h => by
      have h' : (if n ≤ o ∧ o < n + ls.length then some (pl (o - n)) else K.σ o) = some s := h
      split at h'
      · exact .inr ⟨o - n, by rw [arrs_length]; omega, by omega⟩
      · exact .inl h'
    F := fun b h => (h2 b h).imp id .inl
    frz := fun o l g e b sh _ h => by simp at h
    place := fun i b sh hi h => by
      rw [arrs_length] at hi
      have h' : σ' (n + i) = _ := h
      rw [hσ i hi] at h'
      have h' := Option.some.inj h'
      obtain ⟨l, hl⟩ : ∃ l, ls[i]? = some l := ⟨_, List.getElem?_eq_getElem hi⟩
      rcases h4 i l hl with ⟨q, _⟩ | ⟨b', sh', cs, e, q1, q2, q3, _⟩
      · rw [q] at h'; simp at h'
      · rw [q1] at h'
        obtain ⟨rfl, rfl⟩ := Prod.mk.inj (Option.some.inj h')
        exact .inl ⟨q3, q2⟩
    apart := fun i j b sh sh' hi hj e1 e2 => by
      rw [arrs_length] at hi hj
      have e1' : σ' (n + i) = _ := e1
      have e2' : σ' (n + j) = _ := e2
      rw [hσ i hi] at e1'; rw [hσ j hj] at e2'
      exact h5 i j b sh sh' hi hj (Option.some.inj e1') (Option.some.inj e2')
    kept := .inl fun b hb' => hb.block b hb' }
theorem call_sound {cl : FuncId → List T → Option R} (hcl : CallOK P cl) (hg : Good K) (hobj : ∀ o x s, ob o = some x → K.σ o = some s → RO K s x) (y : Operand) (args : Array Operand) (ats : Array TypeId) (d : Option Nat) (ty : TypeId) (pos : String) (af : Array Edge) (gg : Option (Nat × Bool)) {S : St} (hob : ob = obj S.o) (hSn : S.n = n) {x : T} {nw : List Ob}
    (hn : ∀ i, i < nw.length → K.σ (n + i) = none) (hy : RT K (S.ev y) (a.eval y)) (hz : ∀ z ∈ args, RT K (S.ev z) (a.eval z)) (h : callT cl S (S.ev y) (args.toList.map S.ev) = some (x, nw)) :
    Does P K n ob a ⟨d, .call ⟨.value y, args, ats⟩, ty, pos, af, gg⟩ x nw [] := by
  subst hSn
  unfold callT at h
  split at h
  · rename_i f caps e
    obtain ⟨as, h1, h⟩ := Option.bind_eq_some_iff.1 h
    obtain ⟨cs, h2, h⟩ := Option.bind_eq_some_iff.1 h
    obtain ⟨⟨rx, ls⟩, h3, h⟩ := Option.map_eq_some_iff.1 h
    simp only [Prod.mk.injEq] at h
    obtain ⟨rfl, rfl⟩ := h
    rw [arrs_length] at hn
    rw [e] at hy
    simp only [RT] at hy
    obtain ⟨us, e1, hl⟩ := hy
    have hargs : ∀ l : List Operand, (∀ z ∈ l, RT K (S.ev z) (a.eval z)) → RTs K (l.map S.ev) (l.map a.eval) := by
      intro l
      induction l with
      | nil => intro _; simp only [List.map_nil, RTs]
      | cons y l ih =>
        intro hl
        simp only [List.map_cons, RTs]
        exact ⟨_, _, rfl, hl y (by simp), ih fun z hz => hl z (by simp [hz])⟩
    have r1 := mapO_RTs (K' := K.callee) (fun x y u h r => snap_sound hg hobj hob h r) h1 (hargs args.toList fun z hz' => hz z (by simpa using hz'))
    have r2 := mapO_RTs (K' := K.callee) (fun x y u h r => snapP_sound hg hobj hob h r) h2 hl
    obtain ⟨⟨fn, hf1, hf2, hf3⟩, hcalls⟩ := hcl f _ _ h3
    have hc := hcalls K.w K.F _ hg.F (RTs_append r1 r2)
    refine .inr ⟨f, (args.toList.map a.eval ++ us).toArray, ?_, hc.mono ?_⟩
    · simp only [execOp, resolve, e1, Deferred.ofValue, bind, Pure.pure, Sem.bind, invoke, callFunc, program, Sem.run, hf1, hf2, hf3, Bool.false_eq_true, if_false]
      congr 2
      apply Array.toList_inj.1
      simp
    · rintro ev w' ⟨v, rfl, hb, hr⟩
      obtain ⟨K', hw, st⟩ := Step.call (ob := ob) hg hn hb hr
      exact ⟨v, K', rfl, hw, st⟩
  · simp at h
end
end Go.Proofs.Ytnbijiopcgfmfaa.Tev
