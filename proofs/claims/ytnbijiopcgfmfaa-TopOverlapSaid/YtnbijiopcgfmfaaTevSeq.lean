/- The invariant between a state and the world; operations one after the other. -/
import Derived.Test.YtnbijiopcgfmfaaTevInv
import Derived.Tactics
namespace Go.Proofs.Ytnbijiopcgfmfaa.Tev
open Go Go.RowKit
set_option linter.unusedSectionVars false
set_option linter.unusedVariables false
set_option linter.unusedSimpArgs false

structure Inv (m : Nat) (w0 : World) (F0 : Nat → Prop) (K : Ctx) (S : St) (a : Act) : Prop where
  good : Good K
  base : K.base = w0.heap.size
  below : Below w0.heap.size w0 K.w
  Fin : ∀ b, F0 b → K.F b
  Fout : ∀ b, K.F b → F0 b ∨ w0.heap.size ≤ b
  size : a.tmps.size = m
  defers : a.defers = []
  tm : ∀ t, RT K (get S.t t) (a.tmps.getD t undef)
  oi : OInv K (obj S.o)
  fresh : ∀ o, S.n ≤ o → K.σ o = none
  grp : ∀ o l g e, obj S.o o = some (.arr l g e) → g < S.n

theorem tipOk_get {g gen : Nat} : ∀ {l : List (Nat × Ob)} {o : Nat} {y : List C} {g' e' : Nat}, tipOk g gen l = true → obj l o = some (.arr y g' e') → g' = g → e' ≤ gen
  | [], o, y, g', e', _, h, _ => by simp [obj] at h
  | (k, x) :: l, o, y, g', e', ht, h, hg => by
    simp only [obj] at h
    split at h
    · obtain rfl := Option.some.inj h
      simp only [tipOk, hg, if_true, Bool.and_eq_true, decide_eq_true_eq] at ht
      exact ht.1
    · refine tipOk_get (l := l) ?_ h hg
      cases x <;> simp [tipOk] at ht <;> first | exact ht.2 | exact ht
/-- What an operation makes. -/
theorem opN_shape {E : Env} {cl : FuncId → List T → Option R} {S : St} {o : Oper} {x : T} {nw : List Ob} {fz : List Nat} (h : opN E cl S o = some (x, nw, fz)) :
    (∃ ls, nw = arrs S.n ls) ∨ (∃ z, nw = [.box z]) ∨ nw = [.mp [] 0] ∨
    (∃ p l0 g e0 l, nw = [.arr l g (e0 + 1)] ∧ obj S.o p = some (.arr l0 g e0) ∧ 0 < e0 ∧ tipOk g e0 S.o = true ∧ isA o.op = true) := by
  have nil : nw = [] → ∃ ls, nw = arrs S.n ls := fun h => ⟨[], h⟩
  have one : ∀ l, nw = [.arr l S.n 1] → ∃ ls, nw = arrs S.n ls := fun l h => ⟨[l], h⟩
  obtain ⟨d, op, ty, pos, af, gg⟩ := o
  cases op <;> simp only [opN] at h
  case move y => simp only [Option.some.injEq, Prod.mk.injEq] at h; exact .inl (nil h.2.1.symm)
  case assign y => simp only [Option.some.injEq, Prod.mk.injEq] at h; exact .inl (nil h.2.1.symm)
  case alloc t =>
    have h := (v1_inv h).1
    unfold allocT at h; obtain ⟨z, _, h2⟩ := Option.map_eq_some_iff.1 h
    exact .inr (.inl ⟨_, (Prod.mk.inj h2).2.symm⟩)
  case box t y =>
    have h := (v1_inv h).1
    unfold allocT at h; obtain ⟨z, _, h2⟩ := Option.map_eq_some_iff.1 h
    exact .inr (.inl ⟨_, (Prod.mk.inj h2).2.symm⟩)
  case makeMap t r =>
    have h := (v1_inv h).1
    unfold makeMapT at h
    split at h
    · obtain ⟨z, _, h2⟩ := Option.map_eq_some_iff.1 h; exact .inr (.inr (.inl (Prod.mk.inj h2).2.symm))
    · simp at h
  case buildSlice t k ps =>
    unfold buildSliceT at h
    obtain ⟨_, _, h⟩ := Option.bind_eq_some_iff.1 h
    obtain ⟨_, _, h⟩ := Option.bind_eq_some_iff.1 h
    obtain ⟨_, _, h⟩ := Option.bind_eq_some_iff.1 h
    split at h
    · obtain ⟨_, _, h⟩ := Option.bind_eq_some_iff.1 h
      obtain ⟨_, _, h2⟩ := Option.map_eq_some_iff.1 h
      simp only [Prod.mk.injEq] at h2
      exact .inl (one _ h2.2.1.symm)
    · simp at h
  case makeSlice t y z =>
    have h := (v1_inv h).1
    unfold makeSliceT at h
    obtain ⟨_, _, h⟩ := Option.bind_eq_some_iff.1 h
    obtain ⟨_, _, h⟩ := Option.bind_eq_some_iff.1 h
    obtain ⟨_, _, h⟩ := Option.bind_eq_some_iff.1 h
    obtain ⟨_, _, h⟩ := Option.bind_eq_some_iff.1 h
    split at h
    · split at h
      · split at h
        · simp only [Option.some.injEq, Prod.mk.injEq] at h; exact .inl (one _ h.2.symm)
        · simp at h
      · simp at h
    · simp at h
  case call c =>
    obtain ⟨callee, args, ats⟩ := c
    cases callee with
    | invoke => simp at h
    | value f =>
      have h := (v1_inv h).1
      unfold callT at h
      split at h
      · obtain ⟨_, _, h⟩ := Option.bind_eq_some_iff.1 h
        obtain ⟨_, _, h⟩ := Option.bind_eq_some_iff.1 h
        obtain ⟨r, _, h2⟩ := Option.map_eq_some_iff.1 h
        exact .inl ⟨r.2, (Prod.mk.inj h2).2.symm⟩
      · simp at h
    | builtin b =>
      have h := (v1_inv h).1
      unfold builtinT at h
      split at h
      · obtain ⟨_, _, h⟩ := Option.bind_eq_some_iff.1 h; exact .inl (nil (w0_inv h).2)
      · exact .inl (nil (w0_inv h).2)
      · exact .inl (nil (w0_inv h).2)
      · obtain ⟨_, _, h⟩ := Option.bind_eq_some_iff.1 h
        obtain ⟨_, _, h⟩ := Option.bind_eq_some_iff.1 h
        have app : ∀ (k m by_ sz : Nat) (l x' : List C) (g gen : Nat), app1 S.n k m by_ sz l x' g gen = some (x, nw) → nw = [.arr (l ++ x') g gen] := by
          intro k m by_ sz l x' g gen h
          unfold app1 at h
          split at h
          · simp only [Option.some.injEq, Prod.mk.injEq] at h; exact h.2.symm
          · simp at h
        unfold appendT at h
        obtain ⟨_, _, h⟩ := Option.bind_eq_some_iff.1 h
        obtain ⟨_, _, h⟩ := Option.bind_eq_some_iff.1 h
        obtain ⟨_, _, h⟩ := Option.bind_eq_some_iff.1 h
        obtain ⟨_, _, h⟩ := Option.bind_eq_some_iff.1 h
        split at h
        · split at h
          · exact .inl (one _ (app _ _ _ _ _ _ _ _ h))
          · split at h
            · rename_i l g gen ho
              split at h
              · rename_i hc
                exact .inr (.inr (.inr ⟨_, l, g, gen, _, app _ _ _ _ _ _ _ _ h, ho, hc.2.2.1, hc.2.2.2, rfl⟩))
              · simp at h
            · simp at h
          · simp at h
        · simp at h
      · simp at h
  all_goals first
    | (exact .inl (nil (v0_inv h).2.1))
    | (simp at h)
theorem arrs_mem {n : Nat} {ls : List (List C)} {y : Ob} (h : y ∈ arrs n ls) : ∃ i l, i < ls.length ∧ y = .arr l (n + i) 1 := by
  obtain ⟨i, hi, rfl⟩ := List.mem_iff_getElem.1 h
  have := arrs_get n ls i
  rw [List.getElem?_eq_getElem hi] at this
  obtain ⟨l, hl, h2⟩ := Option.map_eq_some_iff.1 this.symm
  rw [arrs_length] at hi
  exact ⟨i, l, hi, h2.symm⟩
theorem opN_live {E : Env} {cl : FuncId → List T → Option R} {S : St} {o : Oper} {x : T} {nw : List Ob} {fz : List Nat} (h : opN E cl S o = some (x, nw, fz)) : ∀ y ∈ nw, y ≠ .dead := by
  intro y hy
  rcases opN_shape h with ⟨ls, rfl⟩ | ⟨z, rfl⟩ | rfl | ⟨p, l0, g, e0, l, rfl, _⟩
  · obtain ⟨i, l, _, rfl⟩ := arrs_mem hy; simp
  · simp at hy; subst hy; simp
  · simp at hy; subst hy; simp
  · simp at hy; subst hy; simp
theorem opN_tip {E : Env} {cl : FuncId → List T → Option R} {S : St} {o : Oper} {x : T} {nw : List Ob} {fz : List Nat} (h : opN E cl S o = some (x, nw, fz)) {l' : List C} {g gen : Nat} (hn : nw = [.arr l' g (gen + 1)]) (h0 : 0 < gen) :
    tipOk g gen S.o = true ∧ isA o.op = true ∧ ∃ p l0, obj S.o p = some (.arr l0 g gen) := by
  rcases opN_shape h with ⟨ls, rfl⟩ | ⟨z, rfl⟩ | rfl | ⟨p, l0, g', e0, l, rfl, h1, h2, h3, h4⟩
  · obtain ⟨i, l, _, hy⟩ := arrs_mem (show Ob.arr l' g (gen + 1) ∈ arrs S.n ls by rw [hn]; simp)
    simp at hy; omega
  · simp at hn
  · simp at hn
  · simp at hn; obtain ⟨rfl, rfl, rfl⟩ := hn; exact ⟨h3, h4, p, l0, h1⟩
/-- A group of what is made is new, or that of the row that an append goes on with. -/
theorem opN_grp {E : Env} {cl : FuncId → List T → Option R} {S : St} {o : Oper} {x : T} {nw : List Ob} {fz : List Nat} (h : opN E cl S o = some (x, nw, fz)) {l : List C} {g e : Nat} (hy : Ob.arr l g e ∈ nw) :
    (S.n ≤ g ∧ g < S.n + nw.length) ∨ (isA o.op = true ∧ ∃ p l0 e0, obj S.o p = some (.arr l0 g e0)) := by
  rcases opN_shape h with ⟨ls, rfl⟩ | ⟨z, rfl⟩ | rfl | ⟨p, l0, g', e0, l, rfl, h1, h2, h3, h4⟩
  · obtain ⟨i, l, hi, h⟩ := arrs_mem hy
    simp at h; obtain ⟨_, rfl, _⟩ := h
    exact .inl ⟨by omega, by rw [arrs_length]; omega⟩
  · simp at hy
  · simp at hy
  · simp at hy; obtain ⟨_, rfl, _⟩ := hy; exact .inr ⟨h4, p, l0, e0, h1⟩

theorem get_put (S : St) (d : Nat) (x : T) (t : Nat) : get (S.put d x).t t = if d = t then x else get S.t t := rfl
theorem getD_put (a : Act) (d : Nat) (v : Value) (t : Nat) (h : d < a.tmps.size) : (a.put (some d) v).tmps.getD t undef = if d = t then v else a.tmps.getD t undef := by
  simp only [Act.put, Array.getD_eq_getD_getElem?, Array.getElem?_setIfInBounds]
  by_cases hd : d = t
  · subst hd; simp [h]
  · simp [hd]
theorem put_size (a : Act) (d : Option Nat) (v : Value) : (a.put d v).tmps.size = a.tmps.size := by cases d <;> simp [Act.put]
theorem Good.step {K K' : Ctx} {n : Nat} {ob : Nat → Option Ob} {x : T} {nw : List Ob} {fz : List Nat} {val : Value} (hg : Good K) (hobj : ∀ o x s, ob o = some x → K.σ o = some s → RO K s x) (st : Step K n ob x nw fz K' val) : Good K' := by
  refine ⟨fun b hb => ?_, by rw [st.ext.base]; exact Nat.le_trans hg.base st.below.size⟩
  rcases st.F b hb with h | ⟨_, h⟩ | ⟨o, l, g, e, sh, h1, h2, h3⟩
  · exact Nat.lt_of_lt_of_le (hg.F b h) st.below.size
  · exact h
  · exact Nat.lt_of_lt_of_le (RO.lt hg (hobj _ _ _ h1 h3) (by simp)) st.below.size
section
variable {m : Nat} {w0 : World} {F0 : Nat → Prop} {K : Ctx} {S : St} {a : Act}
theorem Inv.put (h : Inv m w0 F0 K S a) (d : Option Nat) (hd : ∀ t, d = some t → t < m) {x : T} {v : Value} (r : RT K x v) : Inv m w0 F0 K (S.putO d x) (a.put d v) := by
  cases d with
  | none => exact { h with }
  | some d =>
    exact { h with
      size := (put_size a (some d) v).trans h.size
      tm := fun t => by
        rw [getD_put a d v t (by rw [h.size]; exact hd d rfl)]
        show RT K (get (S.put d x).t t) _
        rw [get_put]
        split
        · exact r
        · exact h.tm t }
/-- A bool that a temporary holds, put there again. -/
theorem Inv.reput (h : Inv m w0 F0 K S a) {d : Nat} {x : T} (hx : get S.t d = x) : Inv m w0 F0 K (S.put d x) a := { h with
  tm := fun t => by
    rw [get_put]
    split
    · rename_i e; subst e; rw [← hx]; exact h.tm d
    · exact h.tm t }
theorem Inv.step {E : Env} {cl : FuncId → List T → Option R} (h : Inv m w0 F0 K S a) {o : Oper} {x : T} {nw : List Ob} {fz : List Nat} (ho : opN E cl S o = some (x, nw, fz)) {K' : Ctx} {val : Value} (st : Step K S.n (obj S.o) x nw fz K' val) :
    Inv m w0 F0 K' (S.add fz nw) a where
  good := h.good.step h.oi.objs st
  base := st.ext.base.trans h.base
  below := h.below.trans (st.below.mono (by rw [h.base]; exact Nat.le_refl _))
  Fin := fun b hb => st.ext.F b (h.Fin b hb)
  Fout := fun b hb => by
    rcases st.F b hb with h1 | ⟨h1, _⟩ | ⟨o, l, g, e, sh, h1, h2, h3⟩
    · exact h.Fout b h1
    · exact .inr (Nat.le_trans h.below.size h1)
    · have := h.oi.objs _ _ _ h1 h3
      simp only [RO] at this
      rcases this with ⟨h, _⟩ | ⟨b', sh', cs, et, h4, _, h5, _⟩
      · simp at h
      · obtain ⟨rfl, rfl⟩ := Prod.mk.inj (Option.some.inj h4)
        exact .inr (by rw [← h.base]; exact h5)
  size := h.size
  defers := h.defers
  tm := fun t => RT.mono st.ext _ _ (h.tm t)
  oi := by
    have := OInv.step h.good h.oi (fun o y s h1 _ => h1) (fun _ o y h => h) (fun i hi => h.fresh _ (by omega)) (opN_live ho)
      (fun p l l' g gen h1 h2 h3 o' y g' e' h4 h5 => tipOk_get (opN_tip ho h1 h3).1 h4 h5) st
    refine cast (congrArg (OInv K') (funext fun o => ?_)) this
    show _ = obj (addO S.n nw ++ frzGs fz S.o) o
    rw [obj_addO, obj_frzGs]
  fresh := fun o hlt => by
    cases hs : K'.σ o with
    | none => rfl
    | some s =>
      have hlt' : S.n + nw.length ≤ o := hlt
      rcases st.dom o s hs with h1 | ⟨i, h1, h2⟩
      · rw [h.fresh o (by omega)] at h1; simp at h1
      · omega
  grp := fun o l g e hh => by
    have hh' : obj (addO S.n nw ++ frzGs fz S.o) o = some (.arr l g e) := hh
    show g < S.n + nw.length
    rw [obj_addO, obj_frzGs] at hh'
    split at hh'
    · rcases opN_grp ho (List.mem_of_getElem? hh') with h1 | ⟨_, p, l0, e0, h1⟩
      · exact h1.2
      · have := h.grp _ _ _ _ h1; omega
    · obtain ⟨y, h1, h2⟩ := Option.map_eq_some_iff.1 hh'
      cases y with
      | arr l' g' e' =>
        rw [frzs_arr] at h2
        split at h2
        · simp at h2
        · simp at h2; obtain ⟨rfl, rfl, rfl⟩ := h2
          have := h.grp _ _ _ _ h1; omega
      | _ => rw [frzs_other fz _ (by simp)] at h2; simp at h2
/-- Rows are not written any more from here on. -/
theorem Inv.freeze (h : Inv m w0 F0 K S a) (fz : List Nat) : ∃ K', K'.w = K.w ∧ Inv m w0 F0 K' ⟨S.t, frzGs fz S.o, S.n⟩ a := by
  have st : Step K S.n (obj S.o) .und [] fz (K.frz (obj S.o) fz) undef := .ofFrz (fun l g gen h0 => by simp at h0) (Step.same (by simp only [RT]))
  refine ⟨K.frz (obj S.o) fz, rfl, ?_⟩
  exact {
    good := h.good.step h.oi.objs st
    base := st.ext.base.trans h.base
    below := h.below.trans (st.below.mono (by rw [h.base]; exact Nat.le_refl _))
    Fin := fun b hb => st.ext.F b (h.Fin b hb)
    Fout := fun b hb => by
      rcases st.F b hb with h1 | ⟨h1, _⟩ | ⟨o, l, g, e, sh, h1, h2, h3⟩
      · exact h.Fout b h1
      · exact .inr (Nat.le_trans h.below.size h1)
      · have := h.oi.objs _ _ _ h1 h3
        simp only [RO] at this
        rcases this with ⟨h, _⟩ | ⟨b', sh', cs, et, h4, _, h5, _⟩
        · simp at h
        · obtain ⟨rfl, rfl⟩ := Prod.mk.inj (Option.some.inj h4)
          exact .inr (by rw [← h.base]; exact h5)
    size := h.size
    defers := h.defers
    tm := fun t => RT.mono st.ext _ _ (h.tm t)
    oi := by
      have := OInv.step h.good h.oi (fun o y s h1 _ => h1) (fun _ o y h => h) (fun i hi => h.fresh _ (by omega)) (fun y hy => by simp at hy)
        (fun p l l' g gen h1 h2 h3 o' y g' e' h4 h5 => by simp at h1) st
      refine cast (congrArg (OInv (K.frz (obj S.o) fz)) (funext fun o => ?_)) this
      show _ = obj (frzGs fz S.o) o
      rw [obj_frzGs, if_neg (by simp)]
    fresh := fun o hlt => h.fresh o hlt
    grp := fun o l g e hh => by
      have hh' : obj (frzGs fz S.o) o = some (.arr l g e) := hh
      show g < S.n
      rw [obj_frzGs] at hh'
      obtain ⟨y, h1, h2⟩ := Option.map_eq_some_iff.1 hh'
      cases y with
      | arr l' g' e' =>
        rw [frzs_arr] at h2
        split at h2
        · simp at h2
        · simp at h2; obtain ⟨rfl, rfl, rfl⟩ := h2
          exact h.grp _ _ _ _ h1
      | _ => rw [frzs_other fz _ (by simp)] at h2; simp at h2 }
theorem Inv.frzA (h : Inv m w0 F0 K S a) : ∀ (ts : List Nat), ∃ K', K'.w = K.w ∧ Inv m w0 F0 K' (frzA S ts) a
  | [] => ⟨K, rfl, h⟩
  | _ :: _ => h.freeze _
end
end Go.Proofs.Ytnbijiopcgfmfaa.Tev
