/- A region whose order is drawn, told by an invariant of what was executed. -/
import Derived.Test.YtnbijiopcgfmfaaTevHand
namespace Go.Proofs.Ytnbijiopcgfmfaa.Tev
open Go Go.RowKit
set_option linter.unusedSectionVars false
set_option linter.unusedVariables false
set_option linter.unusedSimpArgs false
theorem any_gen {P : Program} {ops : Array Oper} {Q : Exit → Act → World → Prop} (I : (Nat → Bool) → Act → World → Prop)
    (hdown : (ops.toList.zipIdx.all fun (o, i) => o.after.toList.all fun e => !Region.binds .any e || decide (e.on < i)) = true)
    (hstep : ∀ L a w i, I L a w → i < ops.size → L i = false → (∀ o, ops[i]? = some o → ∀ e ∈ o.after.toList, Region.binds .any e = true → L e.on = true) →
      ∀ next : Act → World → Prop, (∀ a' w', I (fun j => j == i || L j) a' w' → next a' w') → ∃ o, ops[i]? = some o ∧ o.guard = none ∧ o.wp P a w next Q)
    (hend : ∀ L a w, I L a w → (∀ k, k < ops.size → L k = true) → Q .normal a w) :
    ∀ (fuel : Nat) (listed : Array Bool) (a : Act) (w : World), I (fun j => listed.getD j false) a w → listed.size = ops.size →
      ((List.range ops.size).filter (fun k => !listed.getD k true)).length ≤ fuel → wpAny P .any ops Q fuel listed a w := by
  have down : ∀ i o, ops[i]? = some o → ∀ e ∈ o.after.toList, Region.binds .any e = true → e.on < i := by
    intro i o hi e he hb
    simp only [List.all_eq_true] at hdown
    have := hdown (o, i) (List.mem_zipIdx_iff_getElem?.2 (by simpa using hi))
    simp only [List.all_eq_true] at this
    have := this e he
    simpa [hb] using this
  have getT : ∀ {listed : Array Bool} {k : Nat} (d d' : Bool), k < listed.size → listed.getD k d = listed.getD k d' := fun d d' hk => by
    rw [Array.getD_eq_getD_getElem?, Array.getD_eq_getD_getElem?, Array.getElem?_eq_getElem hk]; rfl
  have done : ∀ {listed : Array Bool} {a : Act} {w : World}, I (fun j => listed.getD j false) a w → listed.size = ops.size → Region.ready .any ops listed = [] → Q .normal a w := by
    intro listed a w h hs hr
    refine hend _ a w h ?_
    intro k
    induction k using Nat.strongRecOn with
    | _ k ih =>
      intro hk
      have hk' : ops[k]? = some ops[k] := Array.getElem?_eq_getElem hk
      cases hl : listed.getD k false with
      | true => rfl
      | false =>
        exfalso
        have : k ∈ Region.ready .any ops listed := by
          simp only [Region.ready, List.mem_filter, List.mem_range, Bool.and_eq_true, Bool.not_eq_true']
          refine ⟨hk, (getT true false (by omega)).trans hl, ?_⟩
          rw [hk']
          simp only [Option.map_some, Option.getD_some, Array.all_eq_true', Bool.or_eq_true, Bool.not_eq_true']
          intro e he
          cases hb : Region.binds .any e with
          | false => exact .inl rfl
          | true =>
            have hlt := down k _ hk' e (by simpa using he) hb
            exact .inr (ih _ hlt (by omega))
        rw [hr] at this; simp at this
  intro fuel
  induction fuel with
  | zero =>
    intro listed a w h hs hf
    have hr : Region.ready .any ops listed = [] := by
      rw [List.eq_nil_iff_forall_not_mem]
      intro k hk
      simp only [Region.ready, List.mem_filter, Bool.and_eq_true] at hk
      have : k ∈ (List.range ops.size).filter (fun k => !listed.getD k true) := List.mem_filter.2 ⟨hk.1, hk.2.1⟩
      have h0 := List.eq_nil_of_length_eq_zero (Nat.le_zero.1 hf)
      rw [h0] at this; simp at this
    exact ⟨hr, done h hs hr⟩
  | succ fuel ih =>
    intro listed a w h hs hf
    refine ⟨done h hs, fun i hi => ?_⟩
    simp only [Region.ready, List.mem_filter, List.mem_range, Bool.and_eq_true, Bool.not_eq_true'] at hi
    obtain ⟨hilt, hil, hia⟩ := hi
    have hi' : ops[i]? = some ops[i] := Array.getElem?_eq_getElem hilt
    obtain ⟨o, h1, h2, h3⟩ := hstep (fun j => listed.getD j false) a w i h hilt ((getT false true (by omega)).trans hil) (fun o ho e he hb => by
      rw [hi'] at ho
      obtain rfl := Option.some.inj ho
      rw [hi'] at hia
      simp only [Option.map_some, Option.getD_some, Array.all_eq_true', Bool.or_eq_true, Bool.not_eq_true'] at hia
      rcases hia e (by simpa using he) with h3 | h3
      · rw [hb] at h3; simp at h3
      · exact h3) (wpAny P .any ops Q fuel (listed.setIfInBounds i true)) fun a' w' hI => by
        refine ih _ a' w' ?_ (by simpa using hs) ?_
        · have e : (fun j => (listed.setIfInBounds i true).getD j false) = fun j => j == i || listed.getD j false := by
            funext j
            rw [Array.getD_eq_getD_getElem?, Array.getD_eq_getD_getElem?, Array.getElem?_setIfInBounds]
            by_cases e : i = j
            · subst e; simp [show i < listed.size by omega]
            · simp [e, Ne.symm e]
          rw [e]; exact hI
        · have hfe : (List.range ops.size).filter (fun k => !(listed.setIfInBounds i true).getD k true) = ((List.range ops.size).filter (fun k => !listed.getD k true)).filter (fun k => decide (k ≠ i)) := by
            rw [List.filter_filter]
            refine List.filter_congr fun k hk => ?_
            rw [Array.getD_eq_getD_getElem?, Array.getD_eq_getD_getElem?, Array.getElem?_setIfInBounds]
            by_cases e : i = k
            · subst e; simp [show i < listed.size by omega]
            · simp [e, Ne.symm e]
          rw [hfe]
          have : (((List.range ops.size).filter (fun k => !listed.getD k true)).filter (fun k => decide (k ≠ i))).length < ((List.range ops.size).filter (fun k => !listed.getD k true)).length :=
            List.length_filter_lt_length_iff_exists.2 ⟨i, List.mem_filter.2 ⟨by simpa using hilt, by simp [hil]⟩, by simp⟩
          omega
    unfold wpOp
    rw [h1]
    simp only
    rw [if_pos (by simp [Region.wanted, h2])]
    exact .inl h3
variable {m : Nat} {w0 : World} {F0 : Nat → Prop}
theorem Inv.weak {K : Ctx} {S S' : St} {ac : Act} (h : Inv m w0 F0 K S ac) (ht : ∀ t, get S'.t t = get S.t t ∨ get S'.t t = .junk) (hn : S'.n = S.n) (ho : ∀ q, obj S'.o q = obj S.o q) : Inv m w0 F0 K S' ac := { h with
  tm := fun t => by
    rcases ht t with h1 | h1
    · rw [h1]; exact h.tm t
    · rw [h1]; simp only [RT]
  oi := (show obj S'.o = obj S.o from funext ho) ▸ h.oi
  fresh := fun o hh => h.fresh o (by omega)
  grp := fun o l g e hh => by rw [ho] at hh; rw [hn]; exact h.grp o l g e hh }
/-- A drawn region as a piece of a walk: an invariant on the states. -/
theorem walk_free {E : Env} (hm : E.P.follows .mixedOrders = true) {cl : FuncId → List T → Option R} (hcl : CallOK E.P cl) {id : Nat} {ops : Array Oper} {S0 : St} {l : List Code} {Qw : Ex → St → Prop} (Rel : (Nat → Bool) → St → Prop)
    (hdown : (ops.toList.zipIdx.all fun (o, i) => o.after.toList.all fun e => !Region.binds .any e || decide (e.on < i)) = true)
    (hguard : (ops.toList.all fun o => o.guard.isNone && (match o.dst with | some d => decide (d < m) | none => true)) = true)
    (h0 : Rel (fun _ => false) S0)
    (hstep : ∀ L S i o, Rel L S → ops[i]? = some o → L i = false → (∀ e ∈ o.after.toList, Region.binds .any e = true → L e.on = true) → ∃ S1, opA E cl true S o = some S1 ∧ Rel (fun j => j == i || L j) S1)
    (hend : ∀ L S, Rel L S → (∀ k, k < ops.size → L k = true) → ∃ S1, (∀ t, get S1.t t = get S.t t ∨ get S1.t t = .junk) ∧ S1.n = S.n ∧ (∀ q, obj S1.o q = obj S.o q) ∧ WalkL E.P m w0 F0 l S1 Qw) :
    WalkL E.P m w0 F0 (.region id ops true :: l) S0 Qw := by
  intro K ac hi R hR
  refine wp_region_any hm ?_
  have hgd : ∀ (i : Nat) (o : Oper), ops[i]? = some o → o.guard = none ∧ ∀ t, o.dst = some t → t < m := fun i o ho => by
    have := List.all_eq_true.1 hguard o (List.mem_of_getElem? (by simpa using ho))
    simp only [Bool.and_eq_true] at this
    refine ⟨by simpa using this.1, fun t ht => ?_⟩
    have := this.2
    rw [ht] at this
    simpa using this
  have key := any_gen (P := E.P) (ops := ops) (Q := R) (fun L a w => ∃ S K', K'.w = w ∧ Inv m w0 F0 K' S a ∧ Rel L S) hdown
    (fun L a w i ⟨S, K', hw, hiv, hr⟩ hil hLi hedge next hnext => by
      have hi' : ops[i]? = some ops[i] := Array.getElem?_eq_getElem hil
      obtain ⟨S1, h1, h2⟩ := hstep L S i _ hr hi' hLi (hedge _ hi')
      subst hw
      exact ⟨_, hi', (hgd i _ hi').1, opA_sound hcl hiv (hgd i _ hi').2 h1 fun K2 a2 hi2 => hnext a2 K2.w ⟨S1, K2, rfl, hi2, h2⟩⟩)
    (fun L a w ⟨S, K', hw, hiv, hr⟩ hall => by
      subst hw
      obtain ⟨S1, h1, h2, h3, h4⟩ := hend L S hr hall
      exact hR .nor S1 K' a (hiv.weak h1 h2 h3) h4)
  have e : (fun j => (Array.replicate ops.size false).getD j false) = fun _ => false := by
    funext j
    rw [Array.getD_eq_getD_getElem?, Array.getElem?_replicate]
    split <;> rfl
  refine key ops.size (Array.replicate ops.size false) ac _ ⟨S0, _, rfl, hi.drew, by rw [e]; exact h0⟩ (by simp) ?_
  refine Nat.le_trans (List.length_filter_le _ _) (by simp)
end Go.Proofs.Ytnbijiopcgfmfaa.Tev
