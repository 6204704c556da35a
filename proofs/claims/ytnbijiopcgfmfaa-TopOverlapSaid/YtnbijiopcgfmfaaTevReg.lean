/- Regions, in their text's order. -/
import Derived.Test.YtnbijiopcgfmfaaTevW
namespace Go.Proofs.Ytnbijiopcgfmfaa.Tev
open Go Go.RowKit
set_option linter.unusedSectionVars false
set_option linter.unusedVariables false
set_option linter.unusedSimpArgs false
theorem getD_some {a : Array Value} {d : Nat} {v : Value} (h : a.getD d undef = v) (hv : v ≠ undef) : a[d]? = some v := by
  rw [Array.getD_eq_getD_getElem?] at h
  cases hd : a[d]? with
  | none => rw [hd] at h; exact absurd h.symm hv
  | some u => rw [hd] at h; simp at h; rw [h]
theorem yielded_bool {ops : Array Oper} {a : Array Value} {g d : Nat} {b : Bool} (hg : gtmp ops g = some d) (h : a.getD d undef = .bool b) : yielded ops a g = some b := by
  unfold gtmp at hg
  unfold yielded
  rw [hg]
  simp only [Option.bind_some, getD_some h (by simp [undef])]
theorem yielded_und {ops : Array Oper} {a : Array Value} {g d : Nat} (hg : gtmp ops g = some d) (h : a.getD d undef = undef) : yielded ops a g = none := by
  unfold gtmp at hg
  unfold yielded
  rw [hg]
  simp only [Option.bind_some]
  rw [Array.getD_eq_getD_getElem?] at h
  cases hd : a[d]? with
  | none => rfl
  | some u => rw [hd] at h; simp at h; subst h; rfl
section
variable {E : Env} {cl : FuncId → List T → Option R} {m : Nat} {w0 : World} {F0 : Nat → Prop} {K : Ctx} {S S' : St} {a : Act}
/-- One operation, one after the other. -/
theorem opA_sound (hcl : CallOK E.P cl) {dr : Bool} (h : Inv m w0 F0 K S a) {o : Oper} (hd : ∀ t, o.dst = some t → t < m) (ho : opA E cl dr S o = some S') {next : Act → World → Prop} {Q : Exit → Act → World → Prop}
    (hn : ∀ K' a', Inv m w0 F0 K' S' a' → next a' K'.w) : o.wp E.P a K.w next Q := by
  unfold opA at ho
  split at ho
  · obtain ⟨os, h1, rfl⟩ := Option.map_eq_some_iff.1 ho
    obtain ⟨K', hr, hi⟩ := opW_sound h o h1
    unfold Oper.wp
    rw [hr, Oper.upon_skip]
    exact hn K' _ (hi.put o.dst hd (by simp only [RT]))
  · obtain ⟨⟨x, nw, fz⟩, h1, h2⟩ := Option.bind_eq_some_iff.1 ho
    have hs := opN_sound hcl h.good h.oi.objs o (fun i hi => h.fresh _ (by omega)) (fun z _ => RT_ev fun t _ => h.tm t) h1
    refine hs.wp fun val K' st => ?_
    cases hf : frOk dr fz with
    | false => simp [hf] at h2
    | true =>
      simp [hf] at h2; subst h2
      exact hn K' _ ((h.step h1 st).put o.dst hd st.val)
theorem tops_seq (hcl : CallOK E.P cl) {dr : Bool} {ops : Array Oper} {Q : Exit → Act → World → Prop} : ∀ (l : List Oper) {K : Ctx} {S : St} {a : Act}, Inv m w0 F0 K S a → (∀ o ∈ l, ∀ t, o.dst = some t → t < m) → tops E cl dr ops l S = some S' →
    (∀ K' a', Inv m w0 F0 K' S' a' → Q .normal a' K'.w) → wpList E.P ops Q l a K.w
  | [], K, S, a, h, _, ht, hq => by
    simp only [tops, Option.some.injEq] at ht; subst ht
    exact hq K a h
  | o :: l, K, S, a, h, hd, ht, hq => by
    have hd0 := hd o (by simp)
    have hdl : ∀ o ∈ l, ∀ t, o.dst = some t → t < m := fun o ho => hd o (by simp [ho])
    have run : ∀ {K : Ctx} {S : St}, Inv m w0 F0 K S a → (opA E cl dr S o).bind (tops E cl dr ops l) = some S' → o.wp E.P a K.w (wpList E.P ops Q l) Q := by
      intro K S h hh
      obtain ⟨S1, h1, h2⟩ := Option.bind_eq_some_iff.1 hh
      exact opA_sound hcl h hd0 h1 fun K' a' hi => tops_seq hcl l hi hdl h2 hq
    have skip : ∀ {K : Ctx} {S : St}, Inv m w0 F0 K S a → tops E cl dr ops l (S.putO o.dst .und) = some S' → wpList E.P ops Q l (a.put o.dst undef) K.w := by
      intro K S h hh
      exact tops_seq hcl l (h.put o.dst hd0 (by simp only [RT])) hdl hh hq
    simp only [tops, opG] at ht
    unfold wpList
    cases hg : o.guard with
    | none =>
      rw [hg] at ht
      simp only at ht
      rw [if_pos (by simp [Region.wanted, hg])]
      exact .inl (run h ht)
    | some gw =>
      obtain ⟨g, want⟩ := gw
      rw [hg] at ht
      simp only at ht
      split at ht
      · simp at ht
      · rename_i d hgd
        split at ht
        · rename_i b hb
          have hv := h.tm d
          rw [hb] at hv
          have hy := yielded_bool (ops := ops) hgd (RT_v hv)
          have hre := h.reput hb
          have hw : Region.wanted o (yielded ops a.tmps) = (b == want) := by simp [Region.wanted, hg, hy]
          rw [hw]
          cases b <;> cases want <;> simp only [cond_true, cond_false] at ht <;> simp only [beq_self_eq_true, if_true, Bool.false_eq_true, if_false, BEq.beq, decide_true, decide_false, Bool.true_eq_false, reduceCtorEq]
          · exact .inl (run hre ht)
          · exact skip hre ht
          · exact skip hre ht
          · exact .inl (run hre ht)
        · rename_i hb
          have hv := h.tm d
          rw [hb] at hv
          simp only [RT] at hv
          have hy := yielded_und (ops := ops) hgd hv
          rw [if_neg (by simp [Region.wanted, hg, hy])]
          exact skip h ht
        · simp at ht
end
end Go.Proofs.Ytnbijiopcgfmfaa.Tev
