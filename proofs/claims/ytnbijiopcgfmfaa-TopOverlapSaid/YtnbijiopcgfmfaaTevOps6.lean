/- Append. -/
import Derived.Test.YtnbijiopcgfmfaaTevOps5
namespace Go.Proofs.Ytnbijiopcgfmfaa.Tev
open Go Go.RowKit
set_option linter.unusedSectionVars false
set_option linter.unusedVariables false
set_option linter.unusedSimpArgs false
section
variable {P : Program} {K : Ctx} {n : Nat} {ob : Nat → Option Ob} {a : Act}
theorem RC_one {w : World} {F : Nat → Prop} {c : C} {u : Value} (h : RC w F c u) : u.oneCell' = true := by
  cases c with
  | v x => simp only [RC] at h; obtain ⟨rfl, hf⟩ := h; cases u <;> first | rfl | (simp [flat] at hf)
  | s cap n l => simp only [RC] at h; obtain ⟨A, c, rfl, _⟩ := h; rfl
theorem one_of {w : World} {F : Nat → Prop} {l : List C} {us : List Value} {k : Nat} (h1 : us.length = k) (h2 : l.length = k) (h : ∀ (i : Nat) (c : C), l[i]? = some c → ∃ v, us[i]? = some v ∧ RC w F c v) : ∀ v ∈ us, v.oneCell' = true := by
  intro v hv
  obtain ⟨i, hi, rfl⟩ := List.mem_iff_getElem.1 hv
  obtain ⟨v', h3, h4⟩ := h i l[i] (List.getElem?_eq_getElem (by omega))
  rw [List.getElem?_eq_getElem hi] at h3
  obtain rfl := Option.some.inj h3
  exact RC_one h4
/-- An append into the row's own block. -/
theorem Step.inPlace (hg : Good K) (hn : K.σ n = none) {o b sh g gen k m cap sz : Nat} {l l' : List C} {us : List Value} {cs : Array Value} {e : TypeId} (ho : ob o = some (.arr l g gen)) (hgen : 0 < gen) (hs : K.σ o = some (some (b, sh)))
    (hF : ¬ K.F b) (hb : K.base ≤ b) (hh : K.w.heap[b]? = some (.cells cs e (0, 0))) (hr : RCs K.w K.F b sh l) (hll : l.length = k * sz) (hlen' : us.length = m * sz) (hcap : k + m ≤ cap) (hroom : sh + cap * sz ≤ cs.size)
    (hl' : ∀ (i : Nat) (c : C), l'[i]? = some c → ∃ v, us[i]? = some v ∧ RC K.w K.F c v) :
    Step K n ob (.sl n 0 (k + m) sz none) [.arr (l ++ l') g (gen + 1)] [] (K.grow n b sh (cs.toList.take (sh + k * sz) ++ us ++ cs.toList.drop (sh + k * sz + us.length)).toArray) (.slice (some ⟨b, sh, none⟩) (k + m) cap) := by
  have hsz : (k + m) * sz ≤ cap * sz := Nat.mul_le_mul_right _ hcap
  rw [Nat.add_mul] at hsz
  generalize hcs : (cs.toList.take (sh + k * sz) ++ us ++ cs.toList.drop (sh + k * sz + us.length)) = cs'
  have hsize : cs'.length = cs.size := by rw [← hcs]; simp; omega
  have hnew : (K.w.setRow b cs'.toArray).heap[b]? = some (.cells cs'.toArray e (0, 0)) := setRow_heap _ _ _ _ _ _ hh
  have hkeep : ∀ i, i < sh + k * sz → cs'[i]? = cs[i]? := fun i hi => by
    rw [← hcs, List.append_assoc, List.getElem?_append_left (by simp; omega), List.getElem?_take, if_pos hi]; simp
  have hput : ∀ i, i < us.length → cs'[sh + k * sz + i]? = us[i]? := fun i hi => by
    have h1 : (cs.toList.take (sh + k * sz)).length = sh + k * sz := by simp; omega
    rw [← hcs, List.append_assoc, List.getElem?_append_right (by omega), List.getElem?_append_left (by omega), h1, Nat.add_sub_cancel_left]
  have hFk : ∀ c, K.F c → (K.w.setRow b cs'.toArray).heap[c]? = K.w.heap[c]? := fun c hc => setRow_other _ _ _ _ fun h => hF (h ▸ hc)
  have hext : KExt K (K.grow n b sh cs'.toArray) := {
    base := rfl
    F := fun _ h => h
    σ := fun o s h => by
      show (if o = n then _ else K.σ o) = _
      split
      · rename_i e; subst e; rw [hn] at h; simp at h
      · exact h
    kept := fun c hc => hc.elim (hFk c) fun h => setRow_other _ _ _ _ (Nat.ne_of_lt (Nat.lt_of_lt_of_le h hb))
    sizes := fun c q e' fr h => by
      by_cases hc : c = b
      · subst hc
        rw [hh] at h
        simp only [Option.some.injEq, Obj.cells.injEq] at h
        obtain ⟨rfl, rfl, rfl⟩ := h
        exact ⟨_, _, _, hnew, hsize⟩
      · exact ⟨q, e', fr, (setRow_other _ _ _ _ hc).trans h, rfl⟩ }
  exact {
    ext := hext
    below := setRow_below hb
    val := by
      simp only [RT]
      exact ⟨_, cap, rfl, hcap, fun q hq => by simp at hq, .inr ⟨b, sh, by simp [Ctx.grow], rfl, _, e, (0, 0), hnew, by simp only [List.size_toArray, hsize]; omega⟩⟩
    new := fun i y h => by
      cases i with
      | zero =>
        simp at h; subst h
        refine ⟨some (b, sh), by simp [Ctx.grow], ?_⟩
        simp only [RO]
        refine .inr ⟨b, sh, _, e, rfl, hF, hb, hnew, ?_⟩
        refine RCs_mk hnew sh _ fun i c hc => ?_
        have up : ∀ c v, RC K.w K.F c v → RC (K.grow n b sh cs'.toArray).w K.F c v := fun c v r => RC.mono (fun b h => h) (fun c hc => hFk c hc) _ _ r
        by_cases hi : i < l.length
        · rw [List.getElem?_append_left hi] at hc
          obtain ⟨v, hv, r⟩ := RCs_get _ _ _ _ hr hc
          refine ⟨v, ?_, up _ _ r⟩
          simp only [List.getElem?_toArray]
          rw [hkeep _ (by omega)]
          simpa [World.cell?, hh] using hv
        · rw [List.getElem?_append_right (by omega)] at hc
          obtain ⟨v, hv, r⟩ := hl' _ c hc
          have hlt : i - l.length < us.length := by rcases Nat.lt_or_ge (i - l.length) us.length with h' | h'; exact h'; simp [h'] at hv
          refine ⟨v, ?_, up _ _ r⟩
          simp only [List.getElem?_toArray]
          rw [show sh + i = sh + k * sz + (i - l.length) by omega, hput _ hlt]; exact hv
      | succ i => simp at h
    dom := fun m s h => by
      have h' : (if m = n then some (some (b, sh)) else K.σ m) = some s := h
      split at h'
      · rename_i e; exact .inr ⟨0, by simp, by simpa using e⟩
      · exact .inl h'
    F := fun b h => .inl h
    frz := fun o l g e b sh _ h => by simp at h
    place := fun i b' sh' hi h => by
      have : i = 0 := by simp at hi; omega
      subst this
      simp [Ctx.grow] at h
      obtain ⟨rfl, rfl⟩ := h
      exact .inr ⟨o, l, l ++ l', g, gen, rfl, rfl, ho, hgen, hs, by simp⟩
    apart := fun i j b sh sh' hi hj _ _ => by simp at hi hj; omega
    kept := .inr ⟨o, l, l ++ l', g, gen, b, sh, cs, cs'.toArray, e, rfl, rfl, ho, hgen, hs, fun c _ hc => setRow_other _ _ _ _ hc, hh, hnew, fun i hi => by
      have := hkeep i (by omega); simpa using this⟩ }
theorem append_sound (hg : Good K) (hobj : ∀ o x s, ob o = some x → K.σ o = some s → RO K s x) (hn : K.σ n = none) {t0 t1 e e1 : TypeId} {ats : Array TypeId} (h0 : ats[0]? = some t0) (he : elemOf P t0 = some e) (h1 : ats[1]? = some t1) (he1 : elemOf P t1 = some e1)
    (y z : Operand) (d : Option Nat) (ty : TypeId) (pos : String) (af : Array Edge) (gg : Option (Nat × Bool)) {S : St} (hob : ob = obj S.o) (hSn : S.n = n) {x : T} {nw : List Ob}
    (hy : RT K (S.ev y) (a.eval y)) (hz : RT K (S.ev z) (a.eval z)) (h : appendT P S e (S.ev y) (S.ev z) = some (x, nw)) :
    Does P K n ob a ⟨d, .call ⟨.builtin .append, #[y, z], ats⟩, ty, pos, af, gg⟩ x nw [] := by
  subst hSn
  unfold appendT at h
  obtain ⟨sz, h2, h⟩ := Option.bind_eq_some_iff.1 h
  obtain ⟨by_, h3, h⟩ := Option.bind_eq_some_iff.1 h
  obtain ⟨zz, h4, h⟩ := Option.bind_eq_some_iff.1 h
  obtain ⟨⟨m, l'⟩, h5, h⟩ := Option.bind_eq_some_iff.1 h
  split at h
  · rename_i hb
    obtain ⟨hb1, hb2, hb3⟩ := hb
    simp only at hb1
    obtain ⟨A, c, ez, us, hus, hrun, hl'⟩ := shown_sound (P := P) hg hobj hob h5 hb1 hz
    have fin : ∀ (v : Value) (K' : Ctx), (Builtin.append_ ats ty #[a.eval y, a.eval z]).run P K.w = .ok v K'.w → Step K S.n ob x nw [] K' v → Does P K S.n ob a ⟨d, .call ⟨.builtin .append, #[y, z], ats⟩, ty, pos, af, gg⟩ x nw [] := by
      intro v K' hr st
      refine .inl ⟨v, K', ?_, st⟩
      obtain ⟨cc, hc⟩ := run_builtin (P := P) (a := a) .append #[y, z] ats d ty pos af gg K.w
      rw [hc]
      simp only [builtin]
      rw [run_value]
      rw [show (#[y, z] : Array Operand).map a.eval = #[a.eval y, a.eval z] by simp, hr]
      rfl
    split at h
    · rename_i es
      -- nil
      rw [es] at hy
      simp only [RT, RC] at hy
      obtain ⟨A0, c0, ey, _, hex, _⟩ := hy
      obtain rfl := hex 0 rfl
      simp only [app1] at h
      split at h
      · rename_i hbound
        simp only [Option.some.injEq, Prod.mk.injEq] at h
        obtain ⟨rfl, rfl⟩ := h
        by_cases hm : m = 0
        · subst hm
          have hl0 : l' = [] := List.length_eq_zero_iff.1 (by simpa using hb1)
          have hus0 : us = [] := List.length_eq_zero_iff.1 (by simpa using hus)
          subst hl0; subst hus0
          refine fin (.slice A0 0 0) (K.void S.n) ?_ (Step.void hn ?_)
          · rw [ey, ez]
            have hf := hrun K.w (fun _ _ => rfl)
            rw [ez] at hf
            exact run_append (P := P) h0 he h1 he1 h2 ty A0 A 0 0 0 c [] K.w hf (Nat.le_refl _) (by cases A0 <;> rfl)
          · simp only [RT]; exact ⟨A0, 0, rfl, Nat.le_refl _, fun q hq => by simp at hq, .inl ⟨by trivial, none, by simp [Ctx.void]⟩⟩
        · have hf := hrun K.w.drew (fun _ _ => rfl)
          rw [ez] at hf
          have ho0 : (Builtin.firstCells sz 0 (.slice A0 0 0)).run P K.w.drew = .ok ([] : List Value).toArray K.w.drew := by
            cases A0 with
            | none => rfl
            | some ad => simp only [Builtin.firstCells, Nat.zero_mul]; rfl
          obtain ⟨cap, rest, hc1, hc2, hc3⟩ := run_append_new (P := P) h0 he h1 he1 h2 h3 hb3 h4 hb2 ty A0 A 0 0 m c us [] K.w hf ho0 (by omega) hbound
          refine fin _ (K.draw.alloc S.n (.cells ([] ++ us ++ rest).toArray e)) (by rw [ey, ez]; exact hc3) ?_
          exact Step.newRow (l := []) (l' := l') (k := 0) hg hn e hc1 (by simp) hus hc2 (by simp) (fun i c hi => by simp at hi) hl'
      · simp at h
    · rename_i o k sz' cap es
      split at h
      · rename_i l g gen ho
        split at h
        · rename_i hcond
          obtain ⟨hc1, rfl, hgen, _⟩ := hcond
          simp only [app1] at h
          split at h
          · rename_i hbound
            simp only [Option.some.injEq, Prod.mk.injEq] at h
            obtain ⟨rfl, rfl⟩ := h
            have hshow : shown S (S.ev y) = some (k, l) := by
              rw [es]; simp only [shown, ho, rowAt, List.drop_zero, Option.some.injEq, Prod.mk.injEq, true_and]
              rw [← hc1, List.take_length]
            obtain ⟨A0', c0', ey', uo, huo, hruno, hlo⟩ := shown_sound (P := P) hg hobj hob hshow hc1 hy
            rw [es] at hy
            simp only [RT] at hy
            obtain ⟨A0, c0, ey, hkc, _, hplace⟩ := hy
            obtain ⟨rfl, rfl⟩ : A0' = A0 ∧ c0' = c0 := by rw [ey] at ey'; simp at ey'; exact ⟨ey'.1.symm, ey'.2.symm⟩
            by_cases hle : k + m ≤ c0'
            · have hf := hrun K.w (fun _ _ => rfl)
              rw [ez] at hf
              rcases hplace with ⟨rfl, s, hs⟩ | ⟨b, sh, hs, rfl, cs, ee, fr, hh, hroom⟩
              · obtain rfl : m = 0 := by omega
                obtain rfl : k = 0 := by omega
                have hl0 : l' = [] := List.length_eq_zero_iff.1 (by simpa using hb1)
                have hl1 : l = [] := List.length_eq_zero_iff.1 (by simpa using hc1)
                have hus0 : us = [] := List.length_eq_zero_iff.1 (by simpa using hus)
                subst hl0; subst hus0; subst hl1
                refine fin (.slice A0' 0 0) (K.void S.n) ?_ (Step.void hn ?_)
                · rw [ey, ez]
                  exact run_append (P := P) h0 he h1 he1 h2 ty A0' A 0 0 0 c [] K.w hf (Nat.le_refl _) (by cases A0' <;> rfl)
                · simp only [RT]; exact ⟨A0', 0, rfl, Nat.le_refl _, fun q hq => by simp at hq, .inl ⟨by trivial, none, by simp [Ctx.void]⟩⟩
              · have hro := hobj o _ _ (by rw [hob]; exact ho) hs
                simp only [RO] at hro
                rcases hro with ⟨hx, _⟩ | ⟨b', sh', cs', et, h6, hF, hbase, hh', hr⟩
                · simp at hx
                · obtain ⟨rfl, rfl⟩ := Prod.mk.inj (Option.some.inj h6)
                  rw [hh'] at hh
                  simp only [Option.some.injEq, Obj.cells.injEq] at hh
                  obtain ⟨rfl, rfl, rfl⟩ := hh
                  have hsz2 : (k + m) * sz' ≤ c0' * sz' := Nat.mul_le_mul_right _ hle
                  rw [Nat.add_mul] at hsz2
                  refine fin _ _ ?_ (Step.inPlace hg hn (by rw [hob]; exact ho) hgen hs hF hbase hh' hr hc1 hus hle (by simpa using hroom) hl')
                  rw [ey, ez]
                  refine run_append (P := P) h0 he h1 he1 h2 ty _ A k c0' m c us K.w hf hle ?_
                  simp only [Addr.add0, Nat.add_zero]
                  have := run_storeCells_at (P := P) b (sh + k * sz') et us 0 cs' K.w hh' (by simp at hroom; omega) (one_of hus hb1 hl')
                  rw [Nat.add_zero] at this
                  exact this
            · have hf := hrun K.w.drew (fun _ _ => rfl)
              rw [ez] at hf
              have hfo := hruno K.w.drew (fun _ _ => rfl)
              rw [ey] at hfo
              obtain ⟨cap, rest, hq1, hq2, hq3⟩ := run_append_new (P := P) h0 he h1 he1 h2 h3 hb3 h4 hb2 ty A0' A k c0' m c us uo K.w hf hfo hle hbound
              refine fin _ (K.draw.alloc S.n (.cells (uo ++ us ++ rest).toArray e)) (by rw [ey, ez]; exact hq3) ?_
              exact Step.newRow hg hn e hq1 huo hus hq2 hc1 hlo hl'
          · simp at h
        · simp at h
      · simp at h
    · simp at h
  · simp at h
end
end Go.Proofs.Ytnbijiopcgfmfaa.Tev
