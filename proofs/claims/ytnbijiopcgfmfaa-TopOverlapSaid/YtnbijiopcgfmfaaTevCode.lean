/- Code: what the evaluator returns is where the code arrives. -/
import Derived.Test.YtnbijiopcgfmfaaTevDraw
namespace Go.Proofs.Ytnbijiopcgfmfaa.Tev
open Go Go.RowKit
set_option linter.unusedSectionVars false
set_option linter.unusedVariables false
set_option linter.unusedSimpArgs false
def Ex.conv : Ex → Exit
  | .nor => .normal
  | .exit id => .exit id
  | .ret => .ret
theorem findLoop_find (id : Nat) : ∀ c, findLoop id c = (loopsOf c).find? (fun b => decide (firstId b = id))
  | .loop b => by
    simp only [findLoop, loopsOf, List.find?_cons]
    split
    · rename_i h; simp [h]
    · rename_i h; simp [h, findLoop_find id b]
  | .seq a b => by
    simp only [findLoop, loopsOf, List.find?_append, findLoop_find id a, findLoop_find id b]
    cases (loopsOf a).find? (fun b => decide (firstId b = id)) <;> rfl
  | .cond _ a b => by
    simp only [findLoop, loopsOf, List.find?_append, findLoop_find id a, findLoop_find id b]
    cases (loopsOf a).find? (fun b => decide (firstId b = id)) <;> rfl
  | .block _ b => by simp only [findLoop, loopsOf, findLoop_find id b]
  | .skip => rfl
  | .region .. => rfl
  | .rangeFunc .. => rfl
  | .exit .. => rfl
  | .scope .. => rfl
  | .label .. => rfl
  | .goto .. => rfl
  | .ret => rfl
  | .refuse .. => rfl
theorem find_nodup : ∀ (l : List Code), nodupB (l.map firstId) = true → ∀ b ∈ l, l.find? (fun c => decide (firstId c = firstId b)) = some b
  | [], _, b, hb => by simp at hb
  | c :: l, h, b, hb => by
    simp only [List.map_cons, nodupB, Bool.and_eq_true, Bool.not_eq_true'] at h
    rw [List.find?_cons]
    rcases List.mem_cons.1 hb with rfl | hb'
    · simp
    · have hne : firstId c ≠ firstId b := by
        intro e
        have : (l.map firstId).contains (firstId c) = true := by rw [List.contains_iff_mem, e]; exact List.mem_map_of_mem hb'
        rw [this] at h; simp at h
      simp only [hne, decide_false]
      exact find_nodup l h.2 b hb'
theorem findLoop_of {body : Code} (h : nodupB ((loopsOf body).map firstId) = true) {b : Code} (hb : b ∈ loopsOf body) : findLoop (firstId b) body = some b := by
  rw [findLoop_find]; exact find_nodup _ h b hb

section
variable {E : Env} {O : Ora} {m : Nat} {w0 : World} {F0 : Nat → Prop}
/-- A loop's word. -/
def LoopOK (E : Env) (m : Nat) (w0 : World) (F0 : Nat → Prop) (body : Code) (lp : Nat → St → Option (Ex × St)) : Prop :=
  ∀ id S e S', lp id S = some (e, S') → ∀ b, findLoop id body = some b → ∀ K a, Inv m w0 F0 K S a → ∀ Q : Exit → Act → World → Prop, (∀ K' a', Inv m w0 F0 K' S' a' → Q e.conv a' K'.w) → (Code.loop b).wp E.P Q a K.w
theorem tops_any (hm : E.P.follows .mixedOrders = true) {cl : FuncId → List T → Option R} (hcl : CallOK E.P cl) {K : Ctx} {S S' : St} {a : Act} {id : Nat} {ops : Array Oper} {Q : Exit → Act → World → Prop} (h : Inv m w0 F0 K S a) (hd : ∀ o ∈ ops.toList, ∀ t, o.dst = some t → t < m) (hok : okDraw ops = true)
    (ht : tops E cl true ops ops.toList S = some S') (hq : ∀ K' a', Inv m w0 F0 K' S' a' → Q .normal a' K'.w) : (Code.region id ops true).wp E.P Q a K.w := by
  obtain ⟨H, h0, hn, hH⟩ := tops_hist ops.toList S S' ht
  have hH' : ∀ i o, ops[i]? = some o → Eff E cl ops (H i) o (H (i + 1)) := fun i o hi => hH i o (by simpa using hi)
  have hsz : ops.toList.length = ops.size := by simp
  refine wp_region_any hm ?_
  subst h0
  have hi := (h.drew)
  refine any_sound hok hH' hcl (fun i o hi => hd o (by rw [← Array.mem_toList_iff.symm]; exact Array.mem_of_getElem? hi)) (fun K' a' hh => hq K' a' (by rw [← hn, hsz]; exact hh)) ops.size _
    (RInv.ofFull (D := fun _ => False) hok hH' hi (Nat.zero_le _) (fun k => by simp) (fun p _ => Nat.zero_le p)) (by simp) (fun k => by rw [Array.getElem?_replicate]; split <;> simp) (by
      refine Nat.le_trans (List.length_filter_le _ _) (by simp))

theorem te_sound (hm : E.P.follows .mixedOrders = true) (hcl : CallOK E.P O.call) {f : FuncId} {body : Code} (hlp : LoopOK E m w0 F0 body (O.loop f)) (hnd : nodupB ((loopsOf body).map firstId) = true) :
    ∀ (c : Code), (∀ b ∈ loopsOf c, b ∈ loopsOf body) → okCode m c = true → ∀ (S : St) (e : Ex) (S' : St), te E O f c S = some (e, S') → ∀ (K : Ctx) (a : Act), Inv m w0 F0 K S a → ∀ Q : Exit → Act → World → Prop,
      (∀ K' a', Inv m w0 F0 K' S' a' → Q e.conv a' K'.w) → c.wp E.P Q a K.w := by
  intro c
  induction c with
  | skip =>
    intro _ _ S e S' h K a hi Q hq
    simp only [te, Option.some.injEq, Prod.mk.injEq] at h; obtain ⟨rfl, rfl⟩ := h
    exact wp_skip (hq K a hi)
  | region id ops dr =>
    intro _ hok S e S' h K a hi Q hq
    simp only [te] at h
    obtain ⟨S1, h1, h2⟩ := Option.map_eq_some_iff.1 h
    simp only [Prod.mk.injEq] at h2; obtain ⟨rfl, rfl⟩ := h2
    simp only [okCode, Bool.and_eq_true, List.all_eq_true] at hok
    have hd : ∀ o ∈ ops.toList, ∀ t, o.dst = some t → t < m := fun o ho t ht => by
      have := hok.1 o ho
      rw [ht] at this; simpa using this
    obtain ⟨K', hw, hi'⟩ := hi.frzA (E.fz f id)
    rw [← hw]
    cases dr with
    | false => exact wp_region_list (tops_seq hcl ops.toList hi' hd h1 hq)
    | true => exact tops_any hm hcl hi' hd (by simpa using hok.2) h1 hq
  | seq x y ihx ihy =>
    intro hs hok S e S' h K a hi Q hq
    simp only [okCode, Bool.and_eq_true] at hok
    simp only [te] at h
    have hsx : ∀ b ∈ loopsOf x, b ∈ loopsOf body := fun b hb => hs b (by simp [loopsOf, hb])
    have hsy : ∀ b ∈ loopsOf y, b ∈ loopsOf body := fun b hb => hs b (by simp [loopsOf, hb])
    refine wp_seq ?_
    split at h
    · rename_i S1 h1
      exact ihx hsx hok.1 S .nor S1 h1 K a hi _ fun K' a' hi' => ihy hsy hok.2 S1 e S' h K' a' hi' Q hq
    · rename_i hne
      refine ihx hsx hok.1 S e S' h K a hi _ fun K' a' hi' => ?_
      cases e with
      | nor => exact absurd h (hne S')
      | exit id => exact hq K' a' hi'
      | ret => exact hq K' a' hi'
  | cond c x y ihx ihy =>
    intro hs hok S e S' h K a hi Q hq
    simp only [okCode, Bool.and_eq_true] at hok
    have hsx : ∀ b ∈ loopsOf x, b ∈ loopsOf body := fun b hb => hs b (by simp [loopsOf, hb])
    have hsy : ∀ b ∈ loopsOf y, b ∈ loopsOf body := fun b hb => hs b (by simp [loopsOf, hb])
    have hev : RT K (S.ev c) (a.eval c) := RT_ev fun t _ => hi.tm t
    simp only [te] at h
    split at h
    · rename_i q hc
      rw [hc] at hev
      refine wp_cond (RT_v hev) ?_
      split at h
      · rename_i t
        cases q with
        | true =>
          simp only [cond_true] at h
          exact ihx hsx hok.1 _ e S' h K a (hi.reput hc) Q hq
        | false =>
          simp only [cond_false] at h
          exact ihy hsy hok.2 _ e S' h K a (hi.reput hc) Q hq
      · cases q with
        | true => exact ihx hsx hok.1 _ e S' h K a hi Q hq
        | false => exact ihy hsy hok.2 _ e S' h K a hi Q hq
    · simp at h
  | block id x ih =>
    intro hs hok S e S' h K a hi Q hq
    simp only [okCode] at hok
    have hsx : ∀ b ∈ loopsOf x, b ∈ loopsOf body := fun b hb => hs b (by simpa [loopsOf] using hb)
    simp only [te] at h
    refine wp_block ?_
    split at h
    · rename_i i S1 h1
      refine ih hsx hok S (.exit i) S1 h1 K a hi _ fun K' a' hi' => ?_
      simp only [Ex.conv, Exit.inBlock]
      split at h
      · rename_i e1
        simp only [Option.some.injEq, Prod.mk.injEq] at h; obtain ⟨rfl, rfl⟩ := h
        rw [if_pos e1]; exact hq K' a' hi'
      · rename_i e1
        simp only [Option.some.injEq, Prod.mk.injEq] at h; obtain ⟨rfl, rfl⟩ := h
        rw [if_neg e1]; exact hq K' a' hi'
    · rename_i hne
      refine ih hsx hok S e S' h K a hi _ fun K' a' hi' => ?_
      cases e with
      | nor => exact hq K' a' hi'
      | exit i => exact absurd h (hne i S')
      | ret => exact hq K' a' hi'
  | loop b ih =>
    intro hs hok S e S' h K a hi Q hq
    simp only [te] at h
    exact hlp _ S e S' h b (findLoop_of hnd (hs b (by simp [loopsOf]))) K a hi Q hq
  | exit id =>
    intro _ _ S e S' h K a hi Q hq
    simp only [te, Option.some.injEq, Prod.mk.injEq] at h; obtain ⟨rfl, rfl⟩ := h
    exact wp_exit (hq K a hi)
  | ret =>
    intro _ _ S e S' h K a hi Q hq
    simp only [te, Option.some.injEq, Prod.mk.injEq] at h; obtain ⟨rfl, rfl⟩ := h
    exact wp_ret (hq K a hi)
  | scope x _ => intro _ _ S e S' h; simp [te] at h
  | rangeFunc => intro _ _ S e S' h; simp [te] at h
  | label => intro _ _ S e S' h; simp [te] at h
  | goto => intro _ _ S e S' h; simp [te] at h
  | refuse => intro _ _ S e S' h; simp [te] at h
end
end Go.Proofs.Ytnbijiopcgfmfaa.Tev
