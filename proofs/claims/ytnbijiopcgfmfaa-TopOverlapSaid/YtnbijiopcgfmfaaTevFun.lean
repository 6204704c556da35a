/- Loops, functions, the whole: what the evaluator returns is what a call returns. -/
import Derived.Test.YtnbijiopcgfmfaaTevFoc
namespace Go.Proofs.Ytnbijiopcgfmfaa.Tev
open Go Go.RowKit
set_option linter.unusedSectionVars false
set_option linter.unusedVariables false
set_option linter.unusedSimpArgs false
theorem min_of {p : Nat → Prop} : ∀ n, p n → ∃ k, p k ∧ ∀ j, p j → k ≤ j := by
  intro n
  induction n using Nat.strongRecOn with
  | _ n ih =>
    intro h
    by_cases hj : ∃ j, j < n ∧ p j
    · obtain ⟨j, h1, h2⟩ := hj; exact ih j h1 h2
    · exact ⟨n, h, fun j hp => by rcases Nat.lt_or_ge j n with h' | h'; exact absurd ⟨j, h', hp⟩ hj; exact h'⟩
open Classical in
noncomputable def least (p : Nat → Prop) : Nat := if h : ∃ k, p k ∧ ∀ j, p j → k ≤ j then Classical.choose h else 0
theorem least_spec {p : Nat → Prop} {n : Nat} (h : p n) : p (least p) ∧ ∀ j, p j → least p ≤ j := by
  have hm := min_of n h
  unfold least
  rw [dif_pos hm]
  exact Classical.choose_spec hm
/-- A loop by rounds that are counted down. -/
theorem wp_loop_n {P : Program} {c : Code} {Q : Exit → Act → World → Prop} (I : Nat → Act → World → Prop) (h0 : ∀ a w, ¬ I 0 a w)
    (round : ∀ k a w, I (k + 1) a w → c.wp P (Exit.then (fun a' w' => I k a' w') Q) a w) {k : Nat} {a : Act} {w : World} (h : I k a w) : (Code.loop c).wp P Q a w := by
  refine wp_loop (fun a w => ∃ k, I k a w) (fun a w => least fun k => I k a w) ⟨k, h⟩ fun a w ⟨j, hj⟩ => ?_
  obtain ⟨h1, h2⟩ := least_spec (p := fun k => I k a w) hj
  generalize hl : least (fun k => I k a w) = l at h1
  cases l with
  | zero => exact absurd h1 (h0 a w)
  | succ l =>
    refine wp_mono (round l a w h1) fun e a' w' q => ?_
    cases e with
    | normal => exact ⟨⟨l, q⟩, by have := (least_spec (p := fun k => I k a' w') (n := l) q).2 l q; show (least fun k => I k a' w') < l + 1; omega⟩
    | _ => exact q
theorem loops_sub : ∀ (c b : Code), b ∈ loopsOf c → ∀ x ∈ loopsOf b, x ∈ loopsOf c := by
  intro c
  induction c with
  | loop d ih =>
    intro b hb x hx
    simp only [loopsOf, List.mem_cons] at hb ⊢
    rcases hb with rfl | hb
    · exact .inr hx
    · exact .inr (ih b hb x hx)
  | seq c d ih1 ih2 => intro b hb x hx; simp only [loopsOf, List.mem_append] at hb ⊢; exact hb.imp (fun h => ih1 b h x hx) (fun h => ih2 b h x hx)
  | cond q c d ih1 ih2 => intro b hb x hx; simp only [loopsOf, List.mem_append] at hb ⊢; exact hb.imp (fun h => ih1 b h x hx) (fun h => ih2 b h x hx)
  | block id c ih => intro b hb x hx; simp only [loopsOf] at hb ⊢; exact ih b hb x hx
  | _ => intro b hb; simp [loopsOf] at hb
theorem okCode_loop {m : Nat} : ∀ (c b : Code), b ∈ loopsOf c → okCode m c = true → okCode m b = true := by
  intro c
  induction c with
  | loop d ih =>
    intro b hb hk
    simp only [loopsOf, List.mem_cons] at hb
    simp only [okCode] at hk
    rcases hb with rfl | hb
    · exact hk
    · exact ih b hb hk
  | seq c d ih1 ih2 => intro b hb hk; simp only [loopsOf, List.mem_append] at hb; simp only [okCode, Bool.and_eq_true] at hk; rcases hb with h | h; exact ih1 b h hk.1; exact ih2 b h hk.2
  | cond q c d ih1 ih2 => intro b hb hk; simp only [loopsOf, List.mem_append] at hb; simp only [okCode, Bool.and_eq_true] at hk; rcases hb with h | h; exact ih1 b h hk.1; exact ih2 b h hk.2
  | block id c ih => intro b hb hk; simp only [loopsOf] at hb; simp only [okCode] at hk; exact ih b hb hk
  | _ => intro b hb; simp [loopsOf] at hb

section
variable {E : Env} {pr : FuncId → List T → Option R}
theorem ora_loop (hm : E.P.follows .mixedOrders = true) {f : FuncId} {fn : Func} {body : Code} (hf : E.P.funcs[f]? = some fn) (hb : fn.body = some body) (hok : okFunc fn = true) :
    ∀ n, (∀ k, k < n → CallOK E.P (ora E pr k).call) → ∀ w0 F0, LoopOK E fn.ntmps w0 F0 body ((ora E pr n).loop f) := by
  have hok2 : okCode fn.ntmps body = true ∧ nodupB ((loopsOf body).map firstId) = true := by
    unfold okFunc at hok
    rw [hb] at hok
    simp only [Bool.and_eq_true] at hok
    exact hok.2
  intro n
  induction n using Nat.strongRecOn with
  | _ n ih =>
    intro hcl w0 F0 id S e S' hl b hfb K a hi Q hq
    have hbm : b ∈ loopsOf body := by rw [findLoop_find] at hfb; exact List.mem_of_find?_eq_some hfb
    refine wp_loop_n (fun k a w => k ≤ n ∧ ∃ K S, K.w = w ∧ Inv fn.ntmps w0 F0 K S a ∧ (ora E pr k).loop f id S = some (e, S')) ?_ ?_ (k := n) ⟨Nat.le_refl _, K, S, rfl, hi, hl⟩
    · rintro a w ⟨_, K, S, _, _, h⟩
      simp [ora] at h
    · rintro k a w ⟨hk, K, S, rfl, hi, h⟩
      simp only [ora, runL] at h
      obtain ⟨S1, h1, h⟩ := Option.bind_eq_some_iff.1 h
      obtain ⟨K0, hw0, hi0⟩ := prep_sound _ hi
      obtain ⟨K1, hw1, hi1⟩ := focus_sound hi0 h1
      have hw := hw1.trans hw0
      rw [hf] at h
      simp only [Option.bind_some, hb, hfb] at h
      rw [← hw]
      have te := fun e' S2 he => te_sound (E := E) (O := ora E pr k) (m := fn.ntmps) (w0 := w0) (F0 := F0) hm (hcl k (by omega)) (f := f) (body := body) (ih k (by omega) (fun j hj => hcl j (by omega)) w0 F0) hok2.2 b (fun x hx => loops_sub body b hbm x hx) (okCode_loop body b hbm hok2.1) S1 e' S2 he K1 a hi1
      split at h
      · rename_i S2 h2
        exact te .nor S2 h2 _ fun K' a' hi' => ⟨by omega, K', S2, rfl, hi', h⟩
      · rename_i i S2 h2
        obtain ⟨S3, h3, h4⟩ := Option.map_eq_some_iff.1 h
        simp only [Prod.mk.injEq] at h4
        obtain ⟨rfl, rfl⟩ := h4
        refine te (.exit i) S2 h2 _ fun K' a' hi' => ?_
        obtain ⟨K3, hw3, hi3⟩ := focus_sound hi' h3
        show Q (.exit i) a' K'.w
        rw [← hw3]
        exact hq K3 a' hi3
      · rename_i S2 h2
        obtain ⟨S3, h3, h4⟩ := Option.map_eq_some_iff.1 h
        simp only [Prod.mk.injEq] at h4
        obtain ⟨rfl, rfl⟩ := h4
        refine te .ret S2 h2 _ fun K' a' hi' => ?_
        obtain ⟨K3, hw3, hi3⟩ := focus_sound hi' h3
        show Q .ret a' K'.w
        rw [← hw3]
        exact hq K3 a' hi3
      · simp at h

/-! The end of a function. -/
def resSem (tm : Array Value) : ResultVar → Sem Value
  | .tmp t => Pure.pure (tm.getD t undef)
  | .cell a t => do loadVar t (← asAddr (tm.getD a undef))
theorem mapM_one (tm : Array Value) {P : Program} {w : World} : ∀ (rs : List ResultVar) (us : List Value), us.length = rs.length → (∀ (i : Nat) (r : ResultVar) (u : Value), rs[i]? = some r → us[i]? = some u → (resSem tm r).run P w = .ok u w) →
    (rs.mapM (resSem tm)).run P w = .ok us w
  | [], us, h, _ => by
    obtain rfl : us = [] := List.length_eq_zero_iff.1 (by simpa using h)
    rfl
  | r :: rs, us, h, hh => by
    cases us with
    | nil => simp at h
    | cons u us =>
      have h0 := hh 0 r u rfl rfl
      have ih := mapM_one tm rs us (by simpa using h) fun i r u hr hu => hh (i + 1) r u (by simpa using hr) (by simpa using hu)
      rw [List.mapM_cons]
      show (Sem.bind _ _).run P w = _
      rw [Sem.run_bind', h0]
      show (Sem.bind _ _).run P w = _
      rw [Sem.run_bind', ih]
      rfl
def packV : List Value → Value
  | [u] => u
  | us => .tuple us.toArray
theorem results_run {P : Program} (fn : Func) (tm : Array Value) {w : World} {us : List Value} (hl : us.length = fn.results.toList.length) (h : ∀ (i : Nat) (r : ResultVar) (u : Value), fn.results.toList[i]? = some r → us[i]? = some u → (resSem tm r).run P w = .ok u w) :
    (results fn tm).run P w = .ok (packV us) w := by
  have := mapM_one (P := P) tm fn.results.toList us hl h
  have hres : results fn tm = Sem.bind (fn.results.mapM (resSem tm)) fun vs => Sem.pure (if h : vs.size = 1 then vs[0] else .tuple vs) := rfl
  rw [hres, Array.mapM_eq_mapM_toList]
  show (Sem.bind (Sem.bind _ _) _).run P w = _
  rw [Sem.run_bind', Sem.run_bind', this]
  clear hl h this hres
  rcases us with _ | ⟨u, _ | ⟨v, us⟩⟩ <;> rfl
theorem resT_sound {P : Program} {m : Nat} {w0 : World} {F0 : Nat → Prop} {K : Ctx} {S : St} {a : Act} (h : Inv m w0 F0 K S a) {r : ResultVar} {x : T} (hr : resT P S r = some x) :
    ∃ u, (resSem a.tmps r).run P K.w = .ok u K.w ∧ RT K x u := by
  cases r with
  | tmp t =>
    simp only [resT, Option.some.injEq] at hr; subst hr
    exact ⟨_, rfl, h.tm t⟩
  | cell c t =>
    simp only [resT] at hr
    obtain ⟨b, o, v, e, hv, r⟩ := load_core (P := P) (ob := obj S.o) h.oi.objs t rfl (h.tm c) hr
    refine ⟨v, ?_, r⟩
    simp only [resSem, e, asAddr, bind, Pure.pure, Sem.bind, hv]

/-- What has been laid out for the caller so far. -/
structure ExpInv (K : Ctx) (S : St) (acc : List Nat × List (List C)) (pl : Nat → Option (Nat × Nat)) : Prop where
  rows : ∀ (k : Nat) (l : List C), acc.2[k]? = some l → (pl k = none ∧ l = []) ∨ ∃ b sh cs e, pl k = some (b, sh) ∧ ¬ K.F b ∧ K.base ≤ b ∧ K.w.heap[b]? = some (.cells cs e (0, 0)) ∧ RCs K.w K.F b sh l ∧
    ∃ o l0 g gen sh0, obj S.o o = some (.arr l0 g gen) ∧ g ∈ acc.1 ∧ K.σ o = some (some (b, sh0))
  apart : ∀ i j b sh sh', i < acc.2.length → j < acc.2.length → pl i = some (b, sh) → pl j = some (b, sh') → i = j
def Out (K : Ctx) (S : St) (acc acc' : List Nat × List (List C)) (pl : Nat → Option (Nat × Nat)) (R : (Nat → Nat → (Nat → Option (Option (Nat × Nat))) → Ctx → Prop)) : Prop :=
  ∃ pl', (∀ k, k < acc.2.length → pl' k = pl k) ∧ ExpInv K S acc' pl' ∧ acc.2.length ≤ acc'.2.length ∧
    ∀ (n base : Nat) (σ : Nat → Option (Option (Nat × Nat))), (∀ k, k < acc'.2.length → σ (n + k) = some (pl' k)) → R n base σ ⟨K.w, K.F, base, σ⟩
theorem expC_sound {K : Ctx} {S : St} (oi : OInv K (obj S.o)) {acc acc' : List Nat × List (List C)} {pl : Nat → Option (Nat × Nat)} {x x' : T} {ty : Option Nat} {u : Value} (hI : ExpInv K S acc pl) (r : RT K x u) (h : expC S acc x ty = some (x', acc'.1, acc'.2)) :
    Out K S acc acc' pl fun n base σ K2 => RT K2 (liftC n x') u := by
  unfold expC at h
  split at h
  · rename_i o off n sz cap
    split at h
    · rename_i l g gen ho
      split at h
      · simp at h
      · rename_i hng
        simp only [Option.some.injEq, Prod.mk.injEq] at h
        obtain ⟨rfl, e1, e2⟩ := h
        simp only [RT] at r
        obtain ⟨A, c, rfl, hc, _, hp⟩ := r
        have hng' : g ∉ acc.1 := by simpa [List.contains_iff_mem] using hng
        -- the new row's place
        have place : ∃ q : Option (Nat × Nat), ((q = none ∧ rowAt l off (n * sz) = [] ∧ c = 0) ∨ ∃ b sh cs e, q = some (b, sh + off) ∧ ¬ K.F b ∧ K.base ≤ b ∧ K.w.heap[b]? = some (.cells cs e (0, 0)) ∧ RCs K.w K.F b (sh + off) (rowAt l off (n * sz)) ∧ K.σ o = some (some (b, sh)) ∧ A = some ⟨b, sh + off, none⟩ ∧ sh + off + c * sz ≤ cs.size) := by
          rcases hp with ⟨rfl, _⟩ | ⟨b, sh, hs, hA, cs, ee, fr, hh, hroom⟩
          · exact ⟨none, .inl ⟨rfl, by rw [show n = 0 by omega, Nat.zero_mul, rowAt_zero], rfl⟩⟩
          · have hro := oi.objs o _ _ ho hs
            simp only [RO] at hro
            rcases hro with ⟨q, _⟩ | ⟨b', sh', cs', et, q1, q2, q3, q4, q5⟩
            · simp at q
            · obtain ⟨rfl, rfl⟩ := Prod.mk.inj (Option.some.inj q1)
              rw [q4] at hh
              simp only [Option.some.injEq, Obj.cells.injEq] at hh
              obtain ⟨rfl, rfl, rfl⟩ := hh
              exact ⟨some (b, sh + off), .inr ⟨b, sh, cs', et, rfl, q2, q3, q4, RCs_row q5 _ _, hs, hA, hroom⟩⟩
        obtain ⟨q, hq⟩ := place
        refine ⟨fun k => if k = acc.2.length then q else pl k, fun k hk => if_neg (by omega), ⟨?_, ?_⟩, by rw [← e2]; simp, ?_⟩
        · intro k l' hl'
          rw [← e2] at hl'
          rw [← e1]
          by_cases hk : k < acc.2.length
          · rw [List.getElem?_append_left hk] at hl'
            simp only [if_neg (show ¬ k = acc.2.length by omega)]
            refine (hI.rows k l' hl').imp id ?_
            rintro ⟨b, sh, cs, e, h1, h2, h3, h4, h5, o', l0, g', gen', sh0, h6, h7, h8⟩
            exact ⟨b, sh, cs, e, h1, h2, h3, h4, h5, o', l0, g', gen', sh0, h6, by simp [h7], h8⟩
          · rw [List.getElem?_append_right (by omega)] at hl'
            have hk' : k = acc.2.length := by
              rcases Nat.lt_or_ge (k - acc.2.length) 1 with h' | h'
              · omega
              · rw [List.getElem?_eq_none (by simpa using h')] at hl'; simp at hl'
            subst hk'
            simp at hl'; subst hl'
            simp only [if_true]
            rcases hq with ⟨h1, h2, _⟩ | ⟨b, sh, cs, e, h1, h2, h3, h4, h5, h6, _⟩
            · exact .inl ⟨h1, h2⟩
            · exact .inr ⟨b, _, cs, e, h1, h2, h3, h4, h5, o, l, g, gen, sh, ho, by simp, h6⟩
        · intro i j b sh sh' hi hj h1 h2
          rw [← e2] at hi hj
          simp at hi hj
          have key : ∀ i sh, i < acc.2.length → pl i = some (b, sh) → ∀ sh', q = some (b, sh') → False := by
            intro i sh hi h1 sh' h2
            obtain ⟨li, hli⟩ : ∃ li, acc.2[i]? = some li := ⟨_, List.getElem?_eq_getElem hi⟩
            rcases hI.rows i li hli with ⟨h3, _⟩ | ⟨b', sh2, cs, e, h3, _, _, _, _, o', l0, g', gen', sh0, h6, h7, h8⟩
            · rw [h3] at h1; simp at h1
            · rw [h3] at h1; simp at h1; obtain ⟨rfl, rfl⟩ := h1
              rcases hq with ⟨q1, _⟩ | ⟨b2, sh3, cs, e, q1, _, _, _, _, q6, _⟩
              · rw [q1] at h2; simp at h2
              · rw [q1] at h2; simp at h2; obtain ⟨rfl, rfl⟩ := h2
                rcases oi.alias o o' _ _ b2 sh3 sh0 ho h6 q6 h8 with rfl | hal
                · rw [ho] at h6; simp at h6; exact hng' (h6.2.1 ▸ h7)
                · simp only [Alias] at hal; exact hng' (hal.1 ▸ h7)
          by_cases hi' : i = acc.2.length
          · by_cases hj' : j = acc.2.length
            · omega
            · simp only [if_pos hi'] at h1
              simp only [if_neg hj'] at h2
              exact (key j sh' (by omega) h2 _ h1).elim
          · simp only [if_neg hi'] at h1
            by_cases hj' : j = acc.2.length
            · simp only [if_pos hj'] at h2
              exact (key i sh (by omega) h1 _ h2).elim
            · simp only [if_neg hj'] at h2
              exact hI.apart i j b sh sh' (by omega) (by omega) h1 h2
        · intro n' base σ hσ
          simp only [liftC, RT]
          refine ⟨A, c, rfl, hc, fun k hk => by simp at hk, ?_⟩
          have hs := hσ acc.2.length (by rw [← e2]; simp)
          simp only [if_true] at hs
          rcases hq with ⟨h1, _, h3⟩ | ⟨b, sh, cs, e, h1, h2, h3, h4, h5, h6, h7, h8⟩
          · exact .inl ⟨h3, _, hs⟩
          · rw [h1] at hs
            exact .inr ⟨b, sh + off, hs, h7, cs, e, _, h4, by simpa using h8⟩
    · rename_i l ho
      simp only [Option.some.injEq, Prod.mk.injEq] at h
      obtain ⟨rfl, e1, e2⟩ := h
      obtain rfl : acc' = acc := Prod.ext e1.symm e2.symm
      refine ⟨pl, fun k _ => rfl, hI, Nat.le_refl _, fun n' base σ _ => ?_⟩
      simp only [RT] at r
      obtain ⟨A, c, rfl, hc, _, hp⟩ := r
      simp only [liftC, RT, RC]
      refine ⟨A, c, rfl, hc, fun k hk => by simp at hk, ?_⟩
      rcases hp with ⟨rfl, _⟩ | ⟨b, sh, hs, hA, cs, ee, fr, hh, hroom⟩
      · exact .inl ⟨by omega, by rw [show n = 0 by omega, Nat.zero_mul, rowAt_zero]⟩
      · have hro := oi.objs o _ _ ho hs
        simp only [RO] at hro
        rcases hro with ⟨q, _⟩ | ⟨b', sh', q1, q2, q3⟩
        · simp at q
        · obtain ⟨rfl, rfl⟩ := Prod.mk.inj (Option.some.inj q1)
          exact .inr ⟨b, _, hA, q2, RCs_row q3 _ _⟩
    · simp at h
  · rename_i sz
    simp only [Option.some.injEq, Prod.mk.injEq] at h
    obtain ⟨rfl, e1, e2⟩ := h
    simp only [RT, RC] at r
    obtain ⟨A, c, rfl, hc, hex, hp⟩ := r
    obtain rfl := hex 0 rfl
    refine ⟨fun k => if k = acc.2.length then none else pl k, fun k hk => if_neg (by omega), ⟨?_, ?_⟩, by rw [← e2]; simp, ?_⟩
    · intro k l' hl'
      rw [← e2] at hl'
      rw [← e1]
      by_cases hk : k < acc.2.length
      · rw [List.getElem?_append_left hk] at hl'
        simp only [if_neg (show ¬ k = acc.2.length by omega)]
        exact hI.rows k l' hl'
      · rw [List.getElem?_append_right (by omega)] at hl'
        have hk' : k = acc.2.length := by
          rcases Nat.lt_or_ge (k - acc.2.length) 1 with h' | h'
          · omega
          · rw [List.getElem?_eq_none (by simpa using h')] at hl'; simp at hl'
        subst hk'
        simp at hl'; subst hl'
        exact .inl ⟨by simp, rfl⟩
    · intro i j b sh sh' hi hj h1 h2
      rw [← e2] at hi hj
      simp at hi hj
      by_cases hi' : i = acc.2.length
      · simp [hi'] at h1
      · by_cases hj' : j = acc.2.length
        · simp [hj'] at h2
        · simp only [if_neg hi'] at h1
          simp only [if_neg hj'] at h2
          exact hI.apart i j b sh sh' (by omega) (by omega) h1 h2
    · intro n' base σ hσ
      simp only [liftC, RT]
      have hs := hσ acc.2.length (by rw [← e2]; simp)
      exact ⟨A, 0, rfl, Nat.le_refl _, fun k hk => by simp at hk, .inl ⟨rfl, _, hs⟩⟩
  · simp only [Option.some.injEq, Prod.mk.injEq] at h
    obtain ⟨rfl, e1, e2⟩ := h
    obtain rfl : acc' = acc := Prod.ext e1.symm e2.symm
    exact ⟨pl, fun k _ => rfl, hI, Nat.le_refl _, fun n' base σ _ => by simp only [liftC, RT] at r ⊢; exact r⟩
  · simp at h

theorem Out.then {K : Ctx} {S : St} {acc acc1 acc2 : List Nat × List (List C)} {pl : Nat → Option (Nat × Nat)} {R1 R2 R : (Nat → Nat → (Nat → Option (Option (Nat × Nat))) → Ctx → Prop)} (h1 : Out K S acc acc1 pl R1) (h2 : ∀ pl1, ExpInv K S acc1 pl1 → Out K S acc1 acc2 pl1 R2)
    (h : ∀ n base σ K2, R1 n base σ K2 → R2 n base σ K2 → R n base σ K2) : Out K S acc acc2 pl R := by
  obtain ⟨pl1, a1, a2, a3, a4⟩ := h1
  obtain ⟨pl2, b1, b2, b3, b4⟩ := h2 pl1 a2
  exact ⟨pl2, fun k hk => (b1 k (by omega)).trans (a1 k hk), b2, by omega, fun n base σ hσ => h _ _ _ _ (a4 n base σ fun k hk => by rw [hσ k (by omega), b1 k hk]) (b4 n base σ hσ)⟩
theorem Out.mono {K : Ctx} {S : St} {acc acc1 : List Nat × List (List C)} {pl : Nat → Option (Nat × Nat)} {R1 R : (Nat → Nat → (Nat → Option (Option (Nat × Nat))) → Ctx → Prop)} (h1 : Out K S acc acc1 pl R1)
    (h : ∀ n base σ K2, R1 n base σ K2 → R n base σ K2) : Out K S acc acc1 pl R := by
  obtain ⟨pl1, a1, a2, a3, a4⟩ := h1
  exact ⟨pl1, a1, a2, a3, fun n base σ hσ => h _ _ _ _ (a4 n base σ hσ)⟩
theorem expL_sound {K : Ctx} {S : St} (oi : OInv K (obj S.o)) : ∀ {l l' : List T} {ts : List (Option Nat)} {acc acc' : List Nat × List (List C)} {pl : Nat → Option (Nat × Nat)} {us : List Value}, ExpInv K S acc pl → RTs K l us → expL S l ts acc = some (l', acc'.1, acc'.2) →
    Out K S acc acc' pl fun n base σ K2 => RTs K2 (l'.map (liftC n)) us
  | [], l', ts, acc, acc', pl, us, hI, r, h => by
    simp only [expL, Option.some.injEq, Prod.mk.injEq] at h
    obtain ⟨rfl, e1, e2⟩ := h
    obtain rfl : acc' = acc := Prod.ext e1.symm e2.symm
    exact ⟨pl, fun k _ => rfl, hI, Nat.le_refl _, fun n base σ _ => by simp only [RTs, List.map_nil] at r ⊢; exact r⟩
  | x :: l, l', ts, acc, acc', pl, us, hI, r, h => by
    simp only [expL] at h
    obtain ⟨a1, h1, h⟩ := Option.bind_eq_some_iff.1 h
    obtain ⟨b1, h2, h3⟩ := Option.map_eq_some_iff.1 h
    simp only [Prod.mk.injEq] at h3
    obtain ⟨rfl, h3⟩ := h3
    simp only [RTs] at r
    obtain ⟨u, vs, rfl, r1, r2⟩ := r
    obtain ⟨l1, q⟩ := b1
    simp only at h3
    subst h3
    refine (expC_sound oi (acc' := a1.2) hI r1 h1).then (fun pl1 hI1 => expL_sound oi (acc' := acc') hI1 r2 h2) fun n base σ K2 q1 q2 => ?_
    simp only [List.map_cons, RTs]
    exact ⟨u, vs, rfl, q1, q2⟩
theorem expA_sound {K : Ctx} {S : St} (oi : OInv K (obj S.o)) {acc acc' : List Nat × List (List C)} {pl : Nat → Option (Nat × Nat)} {x x' : T} {ts : List (Option Nat)} {u : Value} (hI : ExpInv K S acc pl) (r : RT K x u) (h : expA S acc x ts = some (x', acc'.1, acc'.2)) :
    Out K S acc acc' pl fun n base σ K2 => RT K2 (liftA n x') u := by
  unfold expA at h
  split at h
  · obtain ⟨a1, h1, h2⟩ := Option.map_eq_some_iff.1 h
    simp only [Prod.mk.injEq] at h2
    obtain ⟨rfl, h2⟩ := h2
    simp only [RT] at r
    obtain ⟨cs, rfl, r⟩ := r
    refine (expL_sound oi (acc' := acc') hI r (by rw [h1]; congr 1; exact Prod.ext rfl h2)).mono fun n base σ K2 q => ?_
    simp only [liftA, RT]
    exact ⟨cs, rfl, q⟩
  · rename_i hne
    refine (expC_sound oi (acc' := acc') hI r h).mono fun n base σ K2 q => ?_
    have : ∀ y, x' ≠ .agg y := by
      intro y e
      subst e
      unfold expC at h
      split at h
      · split at h
        · split at h <;> simp at h
        · simp at h
        · simp at h
      · simp at h
      · simp at h
      · simp at h
    cases x' <;> first | exact q | exact absurd rfl (this _)
theorem expT_sound {K : Ctx} {S : St} (oi : OInv K (obj S.o)) : ∀ {l l' : List T} {ts : List (List (Option Nat))} {acc : List Nat × List (List C)} {ls : List (List C)} {us : List Value}, RTs K l us → expT S l ts acc = some (l', ls) →
    ∃ gs, ∀ pl, ExpInv K S acc pl → Out K S acc (gs, ls) pl fun n base σ K2 => RTs K2 (l'.map (liftA n)) us
  | [], l', ts, acc, ls, us, r, h => by
    simp only [expT, Option.some.injEq, Prod.mk.injEq] at h
    obtain ⟨rfl, rfl⟩ := h
    exact ⟨acc.1, fun pl hI => ⟨pl, fun k _ => rfl, hI, Nat.le_refl _, fun n base σ _ => by simp only [RTs, List.map_nil] at r ⊢; exact r⟩⟩
  | x :: l, l', ts, acc, ls, us, r, h => by
    simp only [expT] at h
    obtain ⟨a1, h1, h⟩ := Option.bind_eq_some_iff.1 h
    obtain ⟨⟨l1, ls1⟩, h2, h3⟩ := Option.map_eq_some_iff.1 h
    simp only [Prod.mk.injEq] at h3
    obtain ⟨rfl, rfl⟩ := h3
    simp only [RTs] at r
    obtain ⟨u, vs, rfl, r1, r2⟩ := r
    obtain ⟨gs, hrest⟩ := expT_sound oi r2 h2
    refine ⟨gs, fun pl hI => (expA_sound oi (acc' := a1.2) hI r1 h1).then hrest fun n base σ K2 q1 q2 => ?_⟩
    simp only [List.map_cons, RTs]
    exact ⟨u, vs, rfl, q1, q2⟩
theorem expC_notup {S : St} {acc : List Nat × List (List C)} {x : T} {ty : Option Nat} {r : T × List Nat × List (List C)} (h : expC S acc x ty = some r) : ∀ l, r.1 ≠ .tup l := by
  intro y e
  unfold expC at h
  split at h
  · split at h
    · split at h
      · simp at h
      · obtain rfl := Option.some.inj h; simp at e
    · obtain rfl := Option.some.inj h; simp at e
    · simp at h
  · obtain rfl := Option.some.inj h; simp at e
  · obtain rfl := Option.some.inj h; simp at e
  · simp at h
theorem expT_notup {S : St} : ∀ {l l' : List T} {ts : List (List (Option Nat))} {acc : List Nat × List (List C)} {ls : List (List C)}, expT S l ts acc = some (l', ls) → ∀ x ∈ l', ∀ y, x ≠ .tup y
  | [], l', ts, acc, ls, h => by simp only [expT, Option.some.injEq, Prod.mk.injEq] at h; obtain ⟨rfl, rfl⟩ := h; simp
  | x :: l, l', ts, acc, ls, h => by
    simp only [expT] at h
    obtain ⟨a1, h1, h⟩ := Option.bind_eq_some_iff.1 h
    obtain ⟨⟨l1, ls1⟩, h2, h3⟩ := Option.map_eq_some_iff.1 h
    simp only [Prod.mk.injEq] at h3
    obtain ⟨rfl, rfl⟩ := h3
    intro z hz y
    rcases List.mem_cons.1 hz with rfl | hz
    · unfold expA at h1
      split at h1
      · obtain ⟨a2, _, rfl⟩ := Option.map_eq_some_iff.1 h1; simp
      · exact expC_notup h1 y
    · exact expT_notup h2 z hz y
/-- The results, laid out. -/
theorem retT_sound {P : Program} {w0 : World} {F0 : Nat → Prop} {K : Ctx} {S : St} {a : Act} {fn : Func} {m : Nat} (h : Inv m w0 F0 K S a) {r : R} (hr : retT P fn.results.toList fn.resultTypes.toList S = some r) :
    ∃ v, (results fn a.tmps).run P K.w = .ok v K.w ∧ ResOK F0 w0 K.w r.1 r.2 v := by
  unfold retT at hr
  obtain ⟨l, h1, hr⟩ := Option.bind_eq_some_iff.1 hr
  obtain ⟨ts, h2, hr⟩ := Option.bind_eq_some_iff.1 hr
  obtain ⟨⟨l', ls⟩, h3, rfl⟩ := Option.map_eq_some_iff.1 hr
  obtain ⟨hl, hg⟩ := mapO_get h1
  have hex : ∀ (i : Nat) (rv : ResultVar), fn.results.toList[i]? = some rv → ∃ u, (resSem a.tmps rv).run P K.w = .ok u K.w ∧ ∃ x, l[i]? = some x ∧ RT K x u := fun i rv hi => by
    obtain ⟨x, hx, hf⟩ := hg i rv hi
    obtain ⟨u, hu, r⟩ := resT_sound h hf
    exact ⟨u, hu, x, hx, r⟩
  have hus : ∃ us : List Value, us.length = fn.results.toList.length ∧ ∀ (i : Nat) (rv : ResultVar) (u : Value), fn.results.toList[i]? = some rv → us[i]? = some u → (resSem a.tmps rv).run P K.w = .ok u K.w ∧ ∃ x, l[i]? = some x ∧ RT K x u := by
    have : ∀ (rs : List ResultVar) (k : Nat), (∀ (i : Nat) (rv : ResultVar), rs[i]? = some rv → ∃ u, (resSem a.tmps rv).run P K.w = .ok u K.w ∧ ∃ x, l[k + i]? = some x ∧ RT K x u) →
        ∃ us : List Value, us.length = rs.length ∧ ∀ (i : Nat) (rv : ResultVar) (u : Value), rs[i]? = some rv → us[i]? = some u → (resSem a.tmps rv).run P K.w = .ok u K.w ∧ ∃ x, l[k + i]? = some x ∧ RT K x u := by
      intro rs
      induction rs with
      | nil => intro k _; exact ⟨[], rfl, fun i rv u hi => by simp at hi⟩
      | cons rv rs ih =>
        intro k hh
        obtain ⟨u, hu⟩ := hh 0 rv rfl
        obtain ⟨us, h1, h2⟩ := ih (k + 1) fun i rv hi => by have := hh (i + 1) rv (by simpa using hi); rw [show k + (i + 1) = k + 1 + i by omega] at this; exact this
        refine ⟨u :: us, by simp [h1], fun i rv' u' hi hu' => ?_⟩
        cases i with
        | zero => simp at hi hu'; subst hi; subst hu'; exact hu
        | succ i => have := h2 i rv' u' (by simpa using hi) (by simpa using hu'); rw [show k + 1 + i = k + (i + 1) by omega] at this; exact this
    have := this fn.results.toList 0 fun i rv hi => by simpa using hex i rv hi
    simpa using this
  obtain ⟨us, hu1, hu2⟩ := hus
  have rl : RTs K l us := RTs_mk _ _ (by rw [hu1, hl]) fun i x u hx hu => by
    obtain ⟨rv, hrv⟩ : ∃ rv, fn.results.toList[i]? = some rv := by
      have : i < fn.results.toList.length := by rw [← hl]; rcases Nat.lt_or_ge i l.length with h' | h'; exact h'; simp [h'] at hx
      exact ⟨_, List.getElem?_eq_getElem this⟩
    obtain ⟨_, x', hx', r⟩ := hu2 i rv u hrv hu
    rw [hx] at hx'; obtain rfl := Option.some.inj hx'
    exact r
  have hrun := results_run (P := P) fn a.tmps (w := K.w) hu1 fun i rv u hi hu => (hu2 i rv u hi hu).1
  refine ⟨_, hrun, ?_⟩
  obtain ⟨gs, hT⟩ := expT_sound h.oi rl h3
  obtain ⟨pl, _, hI, _, hR⟩ := hT (fun _ => none) ⟨fun k l hk => by simp at hk, fun i j b sh sh' hi => by simp at hi⟩
  refine ⟨K.F, pl, h.Fin, fun b hb => (h.Fout b hb).imp id fun hge => ⟨hge, h.good.F b hb⟩, fun n base σ hσ => ?_, fun k l hk => ?_, fun i j b sh sh' hi hj => hI.apart i j b sh sh' hi hj⟩
  · have q := hR n base σ hσ
    match l', us, q with
    | [], us, q => simp only [List.map_nil, RTs] at q; subst q; simp only [lift, packV, RT, List.map_nil]; exact ⟨[], rfl, by simp only [RTs]⟩
    | [x], us, q =>
      simp only [List.map_cons, List.map_nil, RTs] at q
      obtain ⟨u, vs, rfl, q1, rfl⟩ := q
      simp only [packV]
      have hn := expT_notup h3 x (by simp)
      cases x <;> first | exact q1 | exact absurd rfl (hn _)
    | x :: y :: l', us, q =>
      have q' := q
      simp only [List.map_cons, RTs] at q'
      obtain ⟨u, vs, rfl, _, u', vs', rfl, _⟩ := q'
      simp only [lift, packV, RT]
      exact ⟨_, rfl, q⟩
  · rcases hI.rows k l hk with h1 | ⟨b, sh, cs, e, h1, h2, h3, h4, h5, _⟩
    · exact .inl h1
    · exact .inr ⟨b, sh, cs, e, h1, h2, by rw [← h.base]; exact h3, h4, h5⟩

theorem params_get : ∀ (i : Nat) (xs : List T) (t : Nat), get (params i xs) t = if i ≤ t then (xs[t - i]?).getD .junk else .junk
  | i, [], t => by simp [params, get]
  | i, x :: xs, t => by
    simp only [params, get]
    by_cases h : i = t
    · subst h; simp
    · rw [if_neg h, params_get (i + 1) xs t]
      by_cases h' : i + 1 ≤ t
      · rw [if_pos h', if_pos (by omega), show t - i = (t - (i + 1)) + 1 by omega]; simp
      · rw [if_neg h', if_neg (by omega)]
theorem runF_sound {O : Ora} (hm : E.P.follows .mixedOrders = true) (hcl : CallOK E.P O.call) {f : FuncId} {fn : Func} (hf : E.P.funcs[f]? = some fn)
    (hlp : okFunc fn = true → ∀ body, fn.body = some body → ∀ w0 F0, LoopOK E fn.ntmps w0 F0 body (O.loop f)) {xs : List T} {r : R} (h : runF E O f fn xs = some r) :
    (∃ fn, E.P.funcs[f]? = some fn ∧ (fn.name == "runtime.NumGoroutine") = false ∧ fn.body.isNone = false) ∧
    ∀ (w : World) (F : Nat → Prop) (us : List Value), (∀ b, F b → b < w.heap.size) → RTs ⟨w, F, w.heap.size, fun _ => none⟩ xs us →
      Calls E.P f us.toArray w fun e w' => ∃ v, e = .returned v ∧ Below w.heap.size w w' ∧ ResOK F w w' r.1 r.2 v := by
  unfold runF at h
  split at h
  · simp at h
  · rename_i body hb
    split at h
    · rename_i hlenok
      obtain ⟨hlen, hok⟩ := hlenok
      have hok' := hok
      unfold okFunc at hok'
      rw [hb] at hok'
      simp only [Bool.and_eq_true, Bool.not_eq_true'] at hok'
      obtain ⟨hname, hcode, hnd⟩ := hok'
      refine ⟨⟨fn, hf, hname, by rw [hb]; rfl⟩, fun w F us hF hr => ?_⟩
      have hul := RTs_length _ _ hr
      have hI : Inv fn.ntmps w F ⟨w, F, w.heap.size, fun _ => none⟩ ⟨params 0 xs, [], 0⟩ { tmps := us.toArray ++ Array.replicate (fn.ntmps - us.toArray.size) undef, defers := [] } := {
        good := ⟨hF, Nat.le_refl _⟩
        base := rfl
        below := Below.refl _ _
        Fin := fun _ h => h
        Fout := fun _ h => .inl h
        size := by simp; omega
        defers := rfl
        tm := fun t => by
          show RT _ (get (params 0 xs) t) _
          rw [params_get]
          simp only [Nat.zero_le, if_true, Nat.sub_zero]
          cases hx : xs[t]? with
          | none => simp only [Option.getD_none, RT]
          | some x =>
            obtain ⟨u, hu, r⟩ := RTs_get _ _ _ _ hr hx
            have hlt : t < us.length := by rcases Nat.lt_or_ge t us.length with h' | h'; exact h'; simp [h'] at hu
            simp only [Option.getD_some, Array.getD_eq_getD_getElem?]
            rw [Array.getElem?_append_left (by simpa using hlt)]
            simp only [List.getElem?_toArray, hu, Option.getD_some]
            exact r
        oi := ⟨fun o x s h => by simp [obj] at h, fun o x h => by simp [obj] at h, fun o o' x x' b sh sh' h => by simp [obj] at h⟩
        fresh := fun _ _ => rfl
        grp := fun o l g e h => by simp [obj] at h }
      have fin : ∀ (e : Ex) (S : St), te E O f body ⟨params 0 xs, [], 0⟩ = some (e, S) → retT E.P fn.results.toList fn.resultTypes.toList S = some r → (e = .nor ∨ e = .ret) →
          Calls E.P f us.toArray w fun e w' => ∃ v, e = .returned v ∧ Below w.heap.size w w' ∧ ResOK F w w' r.1 r.2 v := by
        intro e S he hS hee
        refine calls_of_wp hf hb (te_sound hm hcl (f := f) (body := body) (hlp hok body hb w F) hnd body (fun b hb => hb) hcode _ e S he _ _ hI _ fun K' a' hi => ?_)
        obtain ⟨v, hrun, hres⟩ := retT_sound hi hS
        rcases hee with rfl | rfl
        · exact ⟨hi.defers, v, hrun, v, rfl, hi.below, hres⟩
        · exact ⟨hi.defers, v, hrun, v, rfl, hi.below, hres⟩
      split at h
      · rename_i S he; exact fin .nor S he h (.inl rfl)
      · rename_i S he; exact fin .ret S he h (.inr rfl)
      · simp at h
    · simp at h
/-- THE WHOLE: what the evaluator returns, with however many rounds, is what a call of the program returns. -/
theorem ora_sound (hm : E.P.follows .mixedOrders = true) (hpr : CallOK E.P pr) : ∀ n, CallOK E.P (ora E pr n).call := by
  intro n
  induction n using Nat.strongRecOn with
  | _ n ih =>
    cases n with
    | zero => intro f ts r h; simp [ora] at h
    | succ n =>
      intro f ts r h
      simp only [ora] at h
      split at h
      · rename_i r' hp
        obtain rfl := Option.some.inj h
        exact hpr f ts r' hp
      · obtain ⟨fn, hf, h⟩ := Option.bind_eq_some_iff.1 h
        exact runF_sound hm (ih n (by omega)) hf (fun hk body hb w0 F0 => ora_loop hm hf hb hk n (fun k hk => ih k (by omega)) w0 F0) h
end
end Go.Proofs.Ytnbijiopcgfmfaa.Tev
