/- Drawn regions that end in two stores whose order is open. -/
import Derived.Test.YticjlkommabcjaaTevDraw
import Derived.Test.YticjlkommabcjaaTevEval
namespace Go.Proofs.Yticjlkommabcjaa.Tev
open Go Go.RowKit
set_option linter.unusedSectionVars false
set_option linter.unusedVariables false
set_option linter.unusedSimpArgs false
section
variable {P : Program} {ops pre : Array Oper} {Q Q1 : Exit → Act → World → Prop} {listed : Array Bool} {a : Act} {w : World} {n : Nat}
theorem getD_true {b d : Bool} {k : Nat} (h : listed[k]? = some b) : listed.getD k d = b := by rw [Array.getD_eq_getD_getElem?, h]; rfl
theorem ready_mem {i : Nat} {o : Oper} (hi : ops[i]? = some o) : i ∈ Region.ready .any ops listed ↔ listed.getD i true = false ∧ ∀ e ∈ o.after.toList, Region.binds .any e = true → listed.getD e.on false = true := by
  have hlt : i < ops.size := by
    rcases Nat.lt_or_ge i ops.size with h | h
    · exact h
    · simp [Array.getElem?_eq_none h] at hi
  simp only [Region.ready, List.mem_filter, List.mem_range, Bool.and_eq_true, Bool.not_eq_true', hi, Option.map_some, Option.getD_some, Array.all_eq_true', Bool.or_eq_true]
  constructor
  · rintro ⟨_, h1, h2⟩
    refine ⟨h1, fun e he hb => ?_⟩
    rcases h2 e (by simpa using he) with h3 | h3
    · rw [hb] at h3; simp at h3
    · exact h3
  · rintro ⟨h1, h2⟩
    refine ⟨hlt, h1, fun e he => ?_⟩
    cases hb : Region.binds .any e with
    | false => exact .inl rfl
    | true => exact .inr (h2 e (by simpa using he) hb)
theorem ready_lt {i : Nat} (h : i ∈ Region.ready .any ops listed) : i < ops.size ∧ listed.getD i true = false := by
  simp only [Region.ready, List.mem_filter, List.mem_range, Bool.and_eq_true, Bool.not_eq_true'] at h
  exact ⟨h.1, h.2.1⟩
theorem any_all (hl : ∀ k, k < ops.size → listed[k]? = some true) : Region.ready .any ops listed = [] := by
  rw [List.eq_nil_iff_forall_not_mem]
  intro k hk
  obtain ⟨h1, h2⟩ := ready_lt hk
  rw [getD_true (hl k h1)] at h2
  simp at h2
theorem any_done (h : Region.ready .any ops listed = []) (q : Q .normal a w) : ∀ fuel, wpAny P .any ops Q fuel listed a w
  | 0 => ⟨h, q⟩
  | f + 1 => ⟨fun _ => q, fun i hi => by rw [h] at hi; simp at hi⟩
theorem any_step {fuel : Nat} (hne : ∃ i, i ∈ Region.ready .any ops listed) (h : ∀ i ∈ Region.ready .any ops listed, ∃ o, ops[i]? = some o ∧ o.guard = none ∧ o.wp P a w (wpAny P .any ops Q fuel (listed.setIfInBounds i true)) Q) : wpAny P .any ops Q (fuel + 1) listed a w := by
  refine ⟨fun h0 => ?_, fun i hi => ?_⟩
  · obtain ⟨i, hi⟩ := hne
    rw [h0] at hi; simp at hi
  · obtain ⟨o, h1, h2, h3⟩ := h i hi
    unfold wpOp
    rw [h1]
    simp only
    rw [if_pos (by simp [Region.wanted, h2])]
    exact .inl h3
theorem covers_lt {s : Oper} (h : covers n s = true) : ∀ e ∈ s.after.toList, Region.binds .any e = true → e.on < n := fun e he hb => by
  simp only [covers, Bool.and_eq_true, List.all_eq_true, Bool.or_eq_true, Bool.not_eq_true', decide_eq_true_eq] at h
  rcases h.1 e he with h1 | h1
  · rw [hb] at h1; simp at h1
  · exact h1
theorem covers_all {s : Oper} (h : covers n s = true) (k : Nat) (hk : k < n) : ∃ e ∈ s.after.toList, Region.binds .any e = true ∧ e.on = k := by
  simp only [covers, Bool.and_eq_true, List.all_eq_true, List.any_eq_true, decide_eq_true_eq, List.mem_range] at h
  obtain ⟨e, h1, h2⟩ := h.2 k hk
  exact ⟨e, h1, h2⟩
theorem set_get {k i : Nat} {b : Bool} (h : listed[k]? = some b) : (listed.setIfInBounds i true)[k]? = some (if i = k then true else b) := by
  rw [Array.getElem?_setIfInBounds]
  by_cases e : i = k
  · subst e
    have : i < listed.size := by
      rcases Nat.lt_or_ge i listed.size with h' | h'
      · exact h'
      · simp [Array.getElem?_eq_none h'] at h
    simp [this]
  · simp [e, h]
/-- The two stores, in both orders. -/
theorem two_final {s1 s2 : Oper} (hs : ops.size = n + 2) (h1 : ops[n]? = some s1) (h2 : ops[n + 1]? = some s2) (g1 : s1.guard = none) (g2 : s2.guard = none) (c1 : covers n s1 = true) (c2 : covers n s2 = true)
    (hl : ∀ k, k < n → listed[k]? = some true) (hn : listed[n]? = some false) (hn1 : listed[n + 1]? = some false) {fuel : Nat}
    (hA : s1.wp P a w (fun a w => s2.wp P a w (Q .normal) Q) Q) (hB : s2.wp P a w (fun a w => s1.wp P a w (Q .normal) Q) Q) : wpAny P .any ops Q (fuel + 2) listed a w := by
  have rdy : ∀ {l' : Array Bool} {s : Oper} {i : Nat}, ops[i]? = some s → covers n s = true → (∀ k, k < n → l'[k]? = some true) → l'[i]? = some false → i ∈ Region.ready .any ops l' := fun hi hc hl hf =>
    (ready_mem hi).2 ⟨getD_true hf, fun e he hb => getD_true (hl _ (covers_lt hc e he hb))⟩
  have which : ∀ {l' : Array Bool} {i : Nat}, (∀ k, k < n → l'[k]? = some true) → i ∈ Region.ready .any ops l' → (i = n ∨ i = n + 1) ∧ l'.getD i true = false := fun hl hi => by
    obtain ⟨q1, q2⟩ := ready_lt hi
    refine ⟨?_, q2⟩
    rcases Nat.lt_or_ge _ n with h | h
    · rw [getD_true (hl _ h)] at q2; simp at q2
    · omega
  have last : ∀ {i j : Nat} {s : Oper} {a : Act} {w : World}, ((i = n ∧ j = n + 1) ∨ (i = n + 1 ∧ j = n)) → ops[j]? = some s → s.guard = none → covers n s = true → s.wp P a w (Q .normal) Q → wpAny P .any ops Q (fuel + 1) (listed.setIfInBounds i true) a w := by
    intro i j s a w hij hj hg hc hw
    have f1 : ∀ k, k < n → (listed.setIfInBounds i true)[k]? = some true := fun k hk => by rw [set_get (hl k hk)]; split <;> rfl
    have f2 : (listed.setIfInBounds i true)[i]? = some true := by
      rcases hij with ⟨rfl, _⟩ | ⟨rfl, _⟩
      · rw [set_get hn, if_pos rfl]
      · rw [set_get hn1, if_pos rfl]
    have f3 : (listed.setIfInBounds i true)[j]? = some false := by
      rcases hij with ⟨rfl, rfl⟩ | ⟨rfl, rfl⟩
      · rw [set_get hn1, if_neg (by omega)]
      · rw [set_get hn, if_neg (by omega)]
    refine any_step ⟨j, rdy hj hc f1 f3⟩ fun k hk => ?_
    obtain ⟨q1, q2⟩ := which f1 hk
    have hkj : k = j := by
      rcases Decidable.em (k = i) with rfl | h
      · rw [getD_true f2] at q2; simp at q2
      · omega
    subst hkj
    refine ⟨s, hj, hg, Oper.wp_mono (fun a w q => any_done (any_all fun t ht => ?_) q fuel) hw⟩
    by_cases h : t < n
    · rw [set_get (f1 t h)]; split <;> rfl
    · by_cases h' : t = i
      · subst h'; rw [set_get f2]; split <;> rfl
      · have : t = k := by omega
        subst this
        rw [set_get f3, if_pos rfl]
  refine any_step ⟨n, rdy h1 c1 hl hn⟩ fun i hi => ?_
  rcases (which hl hi).1 with rfl | rfl
  · exact ⟨s1, h1, g1, Oper.wp_mono (fun a w h => last (.inl ⟨rfl, rfl⟩) h2 g2 c2 h) hA⟩
  · exact ⟨s2, h2, g2, Oper.wp_mono (fun a w h => last (.inr ⟨rfl, rfl⟩) h1 g1 c1 h) hB⟩
/-- What is done at the end; all else as it was. -/
def atEnd (Q : Exit → Act → World → Prop) (N : Act → World → Prop) : Exit → Act → World → Prop
  | .normal, a, w => N a w
  | e, a, w => Q e a w
theorem wp_atEnd {N : Act → World → Prop} {o : Oper} {K : Act → World → Prop} (hh : o.wp P a w K (atEnd Q N)) : o.wp P a w K Q := by
  unfold Oper.wp at *
  generalize (execOp a.eval o).run P w = r at *
  cases r with
  | ok n w' =>
    cases n <;> simp only [Oper.upon] at hh ⊢ <;>
      first
        | exact hh
        | exact Calls.mono hh (fun e w'' he => by cases e <;> exact he)
        | exact Rows.mono hh (fun _ _ he => he)
  | halt x w' => cases x <;> simp only [Oper.upon] at hh ⊢ <;> exact hh
theorem ready_nil_all (hdown : ∀ (i : Nat) (o : Oper), pre[i]? = some o → ∀ e ∈ o.after.toList, Region.binds .any e = true → e.on < i) (hs : listed.size = pre.size) (hr : Region.ready .any pre listed = []) : ∀ k, k < pre.size → listed[k]? = some true := by
  intro k
  induction k using Nat.strongRecOn with
  | _ k ih =>
    intro hk
    have hk' : pre[k]? = some pre[k] := Array.getElem?_eq_getElem hk
    have hl : listed[k]? = some listed[k] := Array.getElem?_eq_getElem (by omega)
    cases hb : listed[k] with
    | true => rw [hl, hb]
    | false =>
      exfalso
      have : k ∈ Region.ready .any pre listed := (ready_mem hk').2 ⟨getD_true (by rw [hl, hb]), fun e he hbd => getD_true (ih _ (hdown k _ hk' e he hbd) (by have := hdown k _ hk' e he hbd; omega))⟩
      rw [hr] at this; simp at this
/-- All but the two stores, in every order. -/
theorem any_pre {s1 s2 : Oper} {N : Act → World → Prop} (hp : pre.size = n) (hs : ops.size = n + 2) (hget : ∀ k, k < n → ops[k]? = pre[k]?) (hg : ∀ (k : Nat) (o : Oper), pre[k]? = some o → o.guard = none)
    (hdown : ∀ (i : Nat) (o : Oper), pre[i]? = some o → ∀ e ∈ o.after.toList, Region.binds .any e = true → e.on < i) (h1 : ops[n]? = some s1) (h2 : ops[n + 1]? = some s2) (c1 : covers n s1 = true) (c2 : covers n s2 = true)
    (hQ : ∀ a w, N a w → ∀ fuel (l' : Array Bool), (∀ k, k < n → l'[k]? = some true) → l'[n]? = some false → l'[n + 1]? = some false → wpAny P .any ops Q (fuel + 2) l' a w) :
    ∀ (fuel : Nat) (listed l' : Array Bool), listed.size = n → (∀ k, k < n → l'[k]? = listed[k]?) → l'[n]? = some false → l'[n + 1]? = some false → ∀ a w, wpAny P .any pre (atEnd Q N) fuel listed a w → wpAny P .any ops Q (fuel + 2) l' a w := by
  intro fuel
  induction fuel with
  | zero =>
    intro listed l' hls hl hn hn1 a w h
    have hall := ready_nil_all hdown (by omega) h.1
    exact hQ a w h.2 0 l' (fun k hk => by rw [hl k hk]; exact hall k (by omega)) hn hn1
  | succ fuel ih =>
    intro listed l' hls hl hn hn1 a w h
    obtain ⟨h0, h3⟩ := h
    by_cases hr : Region.ready .any pre listed = []
    · have hall := ready_nil_all hdown (by omega) hr
      exact hQ a w (h0 hr) (fuel + 1) l' (fun k hk => by rw [hl k hk]; exact hall k (by omega)) hn hn1
    · have get' : ∀ {k : Nat} (d : Bool), k < n → l'.getD k d = listed.getD k d := fun d hk => by rw [Array.getD_eq_getD_getElem?, Array.getD_eq_getD_getElem?, hl _ hk]
      have same : ∀ i, i < n → (i ∈ Region.ready .any ops l' ↔ i ∈ Region.ready .any pre listed) := fun i hi => by
        have hi' : pre[i]? = some pre[i] := Array.getElem?_eq_getElem (by omega)
        rw [ready_mem (by rw [hget i hi]; exact hi'), ready_mem hi', get' true hi]
        refine and_congr Iff.rfl (forall_congr' fun e => forall_congr' fun he => forall_congr' fun hb => ?_)
        have := hdown i _ hi' e he hb
        rw [get' false (by omega)]
      have small : ∀ i, i ∈ Region.ready .any ops l' → i < n := fun i hi => by
        rcases Nat.lt_or_ge i n with h | h
        · exact h
        · exfalso
          have hlt := (ready_lt hi).1
          have key : ∀ s, ops[i]? = some s → covers n s = true → False := fun s hs' hc => by
            have hq := ((ready_mem hs').1 hi).2
            refine hr (any_all fun k hk => ?_)
            obtain ⟨e, e1, e2, e3⟩ := covers_all hc k (by omega)
            have := hq e e1 e2
            rw [e3, get' false (by omega), Array.getD_eq_getD_getElem?] at this
            cases hk' : listed[k]? with
            | none => rw [hk'] at this; simp at this
            | some b => rw [hk'] at this; simp at this; rw [this]
          rcases (show i = n ∨ i = n + 1 by omega) with rfl | rfl
          · exact key s1 h1 c1
          · exact key s2 h2 c2
      refine ⟨fun h => ?_, fun i hi => ?_⟩
      · obtain ⟨i, hi⟩ := List.exists_mem_of_ne_nil _ hr
        have hin : i < n := by have := (ready_lt hi).1; omega
        have := (same i hin).2 hi
        rw [h] at this; simp at this
      · have hin := small i hi
        have hw := h3 i ((same i hin).1 hi)
        have hi' : pre[i]? = some pre[i] := Array.getElem?_eq_getElem (by omega)
        unfold wpOp at hw ⊢
        rw [hget i hin]
        rw [hi'] at hw ⊢
        simp only at hw ⊢
        have hwant : ∀ y, Region.wanted pre[i] y = true := fun y => by simp [Region.wanted, hg i _ hi']
        rw [if_pos (hwant _)] at hw ⊢
        refine hw.imp (fun hw => Oper.wp_mono (fun a w hk => ?_) (wp_atEnd hw)) (fun hw => ⟨hw.1, hw.2⟩)
        refine ih (listed.setIfInBounds i true) (l'.setIfInBounds i true) (by simpa using hls) (fun k hk => ?_) ?_ ?_ a w hk
        · have hk1 : listed[k]? = some listed[k] := Array.getElem?_eq_getElem (by omega)
          rw [set_get hk1, set_get (by rw [hl k hk, hk1])]
        · rw [set_get hn, if_neg (by omega)]
        · rw [set_get hn1, if_neg (by omega)]
end
section
variable {E : Env} {cl : FuncId → List T → Option R} {m : Nat} {w0 : World} {F0 : Nat → Prop}
theorem splice_set {α : Type} (l : List α) (k : Nat) (v : α) (h : k + 1 ≤ l.length) : splice l k [v] = l.set k v := by
  rw [List.set_eq_take_append_cons_drop, if_pos (by omega)]
  simp [splice]
theorem storeT_box {P : Program} {S : St} {t o k : Nat} {x : T} {os : List (Nat × Ob)} {l : List T} (h1 : szOf P t = some 1) (hb : obj S.o o = some (.box l)) (h : storeT P S t (.pt o k) x = some os) :
    ∃ v, k + 1 ≤ l.length ∧ os = setO o (.box (l.set k v)) S.o ∧ ∀ (S' : St) (l' : List T), obj S'.o o = some (.box l') → k + 1 ≤ l'.length → storeT P S' t (.pt o k) x = some (setO o (.box (l'.set k v)) S'.o) := by
  unfold storeT at h
  rw [h1, Option.bind_some] at h
  obtain ⟨v, hv, h⟩ := Option.bind_eq_some_iff.1 h
  split at h
  · rename_i hc
    simp only [hb] at h
    split at h
    · rename_i hle
      obtain rfl := Option.some.inj h
      obtain ⟨hv1, hv2, _⟩ := hc
      cases v with
      | nil => simp at hv1
      | cons v r =>
        have hr : r = [] := by simpa using hv1
        subst hr
        refine ⟨v, hle, by rw [splice_set _ _ _ hle], fun S' l' hb' hl' => ?_⟩
        unfold storeT
        rw [h1, Option.bind_some, hv, Option.bind_some, if_pos ⟨hv1, hv2, by omega⟩]
        simp only [hb', if_pos hl', splice_set _ _ _ hl']
    · simp at h
  · simp at h
theorem opA_st {S S1 : St} {t p : Nat} {x : Operand} {ty : TypeId} {pos : String} {af : Array Edge} (h : opA E cl true S ⟨none, .store t (.tmp p) x, ty, pos, af, none⟩ = some S1) : ∃ os, storeT E.P S t (get S.t p) (S.ev x) = some os ∧ S1 = { S with o := os } := by
  unfold opA at h
  simp only [isW, if_true] at h
  obtain ⟨os, h1, h2⟩ := Option.map_eq_some_iff.1 h
  exact ⟨os, h1, h2.symm⟩
theorem opA_mk {S : St} {os : List (Nat × Ob)} {t p : Nat} {x : Operand} {ty : TypeId} {pos : String} {af : Array Edge} (h : storeT E.P S t (get S.t p) (S.ev x) = some os) : opA E cl true S ⟨none, .store t (.tmp p) x, ty, pos, af, none⟩ = some { S with o := os } := by
  unfold opA
  simp only [isW, if_true]
  show ((storeT E.P S t (get S.t p) (S.ev x)).map _) = _
  rw [h]
  rfl
theorem ev_o {S : St} {os : List (Nat × Ob)} (x : Operand) : St.ev { S with o := os } x = S.ev x := by cases x <;> rfl
/-- Two stores that lie apart may change places. -/
theorem two_swap {S S1 S2 : St} {t1 p1 t2 p2 : Nat} {x1 x2 : Operand} {ty1 ty2 : TypeId} {pos1 pos2 : String} {af1 af2 : Array Edge} (hne : p1 ≠ p2) (ha1 : apAll E.P S t1 p1 [p1, p2] = true) (ha2 : apAll E.P S1 t2 p2 [p1, p2] = true)
    (h1 : opA E cl true S ⟨none, .store t1 (.tmp p1) x1, ty1, pos1, af1, none⟩ = some S1) (h2 : opA E cl true S1 ⟨none, .store t2 (.tmp p2) x2, ty2, pos2, af2, none⟩ = some S2) :
    ∃ S3 S4, opA E cl true S ⟨none, .store t2 (.tmp p2) x2, ty2, pos2, af2, none⟩ = some S3 ∧ opA E cl true S3 ⟨none, .store t1 (.tmp p1) x1, ty1, pos1, af1, none⟩ = some S4 ∧ S4.t = S2.t ∧ S4.n = S2.n ∧ ∀ q, obj S4.o q = obj S2.o q := by
  rw [apAll_2] at ha1 ha2
  simp only [Bool.and_eq_true, Bool.or_eq_true, decide_eq_true_eq] at ha1 ha2
  obtain ⟨z1, ⟨b1, _⟩, b2, ap⟩ := ha1
  obtain ⟨z2, _⟩ := ha2
  have ap := ap.resolve_left (fun e => hne e.symm)
  obtain ⟨os1, e1, rfl⟩ := opA_st h1
  obtain ⟨os2, e2, rfl⟩ := opA_st h2
  have box : ∀ {x : T}, boxAt S x = true → ∃ o k l, x = .pt o k ∧ obj S.o o = some (.box l) := fun {x} hx => by
    unfold boxAt at hx
    split at hx
    · rename_i o k
      split at hx
      · rename_i l hl; exact ⟨_, _, l, rfl, hl⟩
      · simp at hx
    · simp at hx
  obtain ⟨o1, k1, l1, q1, r1⟩ := box b1
  obtain ⟨o2, k2, l2, q2, r2⟩ := box b2
  have q2' : get ({ S with o := os1 } : St).t p2 = .pt o2 k2 := q2
  rw [q1] at e1
  rw [q2'] at e2
  rw [ev_o] at e2
  rw [q1, q2] at ap
  obtain ⟨v1, le1, rfl, go1⟩ := storeT_box z1 r1 e1
  have r2' : obj (setO o1 (.box (l1.set k1 v1)) S.o) o2 = some (.box (if o2 = o1 then l1.set k1 v1 else l2)) := by
    rw [obj_setO]
    by_cases e : o2 = o1
    · subst e; simp [r1]
    · simp [e, r2]
  obtain ⟨v2, le2, rfl, go2⟩ := storeT_box (S := { S with o := setO o1 (.box (l1.set k1 v1)) S.o }) z2 r2' e2
  have le2' : k2 + 1 ≤ l2.length := by
    by_cases e : o2 = o1
    · subst e
      rw [r1] at r2
      simp only [Option.some.injEq, Ob.box.injEq] at r2
      subst r2
      simpa using le2
    · simpa [e] using le2
  have r1' : obj (setO o2 (.box (l2.set k2 v2)) S.o) o1 = some (.box (if o1 = o2 then l2.set k2 v2 else l1)) := by
    rw [obj_setO]
    by_cases e : o1 = o2
    · subst e; simp [r2]
    · simp [e, r1]
  have le1' : k1 + 1 ≤ (if o1 = o2 then l2.set k2 v2 else l1).length := by
    by_cases e : o1 = o2
    · subst e
      rw [r1] at r2
      simp only [Option.some.injEq, Ob.box.injEq] at r2
      subst r2
      simpa using le1
    · simpa [e] using le1
  refine ⟨{ S with o := setO o2 (.box (l2.set k2 v2)) S.o }, { S with o := setO o1 (.box ((if o1 = o2 then l2.set k2 v2 else l1).set k1 v1)) (setO o2 (.box (l2.set k2 v2)) S.o) }, ?_, ?_, rfl, rfl, fun q => ?_⟩
  · exact opA_mk (by rw [q2]; exact go2 S l2 r2 le2')
  · exact opA_mk (S := { S with o := setO o2 (.box (l2.set k2 v2)) S.o }) (by
      show storeT _ _ _ (get S.t p1) _ = _
      rw [q1, ev_o]
      exact go1 { S with o := setO o2 (.box (l2.set k2 v2)) S.o } _ r1' le1')
  · simp only [obj_setO]
    by_cases e : o1 = o2
    · subst e
      rw [r1] at r2
      simp only [Option.some.injEq, Ob.box.injEq] at r2
      subst r2
      have hk : k1 ≠ k2 := by
        intro e
        subst e
        simp [apartT] at ap
      by_cases hq : q = o1
      · subst hq
        simp only [if_true, r1, Option.map_some]
        rw [List.set_comm _ _ hk]
      · simp [hq]
    · by_cases hq : q = o1
      · subst hq
        simp [e, Ne.symm e, r1]
      · by_cases hq2 : q = o2
        · subst hq2
          simp [hq, r2, Ne.symm e]
        · simp [hq, hq2]
theorem Inv.objeq {K : Ctx} {S S' : St} {a : Act} (h : Inv m w0 F0 K S a) (ht : S'.t = S.t) (hn : S'.n = S.n) (ho : ∀ q, obj S'.o q = obj S.o q) : Inv m w0 F0 K S' a := { h with
  tm := fun t => by rw [ht]; exact h.tm t
  oi := (show obj S'.o = obj S.o from funext ho) ▸ h.oi
  fresh := fun o hh => h.fresh o (by omega)
  grp := fun o l g e hh => by rw [ho] at hh; rw [hn]; exact h.grp o l g e hh }
theorem tops_append (dr : Bool) {ops : Array Oper} : ∀ (l r : List Oper) (S : St), tops E cl dr ops (l ++ r) S = (tops E cl dr ops l S).bind (tops E cl dr ops r)
  | [], r, S => rfl
  | o :: l, r, S => by
    simp only [List.cons_append, tops]
    rw [opG_bind dr S o (tops E cl dr ops (l ++ r)), opG_bind dr S o (tops E cl dr ops l), Option.bind_assoc]
    congr 1
    funext S'
    exact tops_append dr l r S'
theorem tops_congr {ops pre : Array Oper} : ∀ (l : List Oper) (S : St), (∀ o ∈ l, o.guard = none ∧ isW o.op = false) → tops E cl true ops l S = tops E cl true pre l S
  | [], S, _ => rfl
  | o :: l, S, h => by
    obtain ⟨h1, h2⟩ := h o (by simp)
    simp only [tops, opG, opC, h1, stB_n _ _ _ _ _ h2, cond_true]
    congr 1
    funext S'
    exact tops_congr l S' fun o ho => h o (by simp [ho])
theorem ptrs_app : ∀ (l r : List Oper), ptrsOf (l ++ r) = ptrsOf l ++ ptrsOf r
  | [], r => rfl
  | o :: l, r => by simp only [List.cons_append, ptrsOf, ptrs_app l r, List.append_assoc]
theorem ptrs_none : ∀ (l : List Oper), (∀ o ∈ l, isW o.op = false) → ptrsOf l = []
  | [], _ => rfl
  | o :: l, h => by
    have h1 := h o (by simp)
    have : ptr1 o.op = [] := by
      obtain ⟨d, op, ty, pos, af, g⟩ := o
      simp only at h1 ⊢
      cases op <;> first | rfl | (simp [isW] at h1)
    simp only [ptrsOf, this, List.nil_append, ptrs_none l fun o ho => h o (by simp [ho])]
theorem isSt_inv {o : Oper} {p : Nat} (h : isSt o = some p) : ∃ t x ty pos af, o = ⟨none, .store t (.tmp p) x, ty, pos, af, none⟩ := by
  obtain ⟨d, op, ty, pos, af, g⟩ := o
  unfold isSt at h
  split at h
  · rename_i t p' x h1 h2 h3
    simp only at h1 h2 h3
    subst h1 h2 h3
    simp only [Option.some.injEq] at h
    subst h
    exact ⟨t, x, ty, pos, af, rfl⟩
  · simp at h
theorem tops_any2 (hm : E.P.follows .mixedOrders = true) (hcl : CallOK E.P cl) {K : Ctx} {S S' : St} {a : Act} {id : Nat} {ops : Array Oper} {Q : Exit → Act → World → Prop} (h : Inv m w0 F0 K S a) (hd : ∀ o ∈ ops.toList, ∀ t, o.dst = some t → t < m) (hok : okDraw2 ops = true)
    (ht : tops E cl true ops ops.toList S = some S') (hq : ∀ K' a', Inv m w0 F0 K' S' a' → Q .normal a' K'.w) : (Code.region id ops true).wp E.P Q a K.w := by
  unfold okDraw2 at hok
  simp only [Bool.and_eq_true, decide_eq_true_eq, List.all_eq_true, Option.isNone_iff_eq_none, Bool.not_eq_true'] at hok
  obtain ⟨⟨⟨hsz, hokp⟩, hpre⟩, hend⟩ := hok
  generalize hL : ops.toList.take (ops.size - 2) = L at *
  split at hend
  · rename_i s1 s2 hdrop
    simp only [Bool.and_eq_true] at hend
    obtain ⟨⟨hst, c1⟩, c2⟩ := hend
    split at hst
    · rename_i p1 p2 i1 i2
      have hne : p1 ≠ p2 := by simpa using hst
      obtain ⟨t1, x1, ty1, pos1, af1, rfl⟩ := isSt_inv i1
      obtain ⟨t2, x2, ty2, pos2, af2, rfl⟩ := isSt_inv i2
      have hops : ops.toList = L ++ [⟨none, .store t1 (.tmp p1) x1, ty1, pos1, af1, none⟩, ⟨none, .store t2 (.tmp p2) x2, ty2, pos2, af2, none⟩] := by
        rw [← hL, ← hdrop, List.take_append_drop]
      have hLn : L.length = ops.size - 2 := by rw [← hL]; simp
      obtain ⟨n, hn⟩ : ∃ n, n = ops.size - 2 := ⟨_, rfl⟩
      rw [← hn] at c1 c2 hLn
      have hs : ops.size = n + 2 := by omega
      have ps : (L.toArray).size = n := by simpa using hLn
      have gets : ∀ k, ops[k]? = (L ++ [⟨none, .store t1 (.tmp p1) x1, ty1, pos1, af1, none⟩, ⟨none, .store t2 (.tmp p2) x2, ty2, pos2, af2, none⟩])[k]? := fun k => by rw [← hops]; exact Array.getElem?_toList.symm
      have h1 : ops[n]? = some ⟨none, .store t1 (.tmp p1) x1, ty1, pos1, af1, none⟩ := by rw [gets, List.getElem?_append_right (by omega)]; simp [hLn]
      have h2 : ops[n + 1]? = some ⟨none, .store t2 (.tmp p2) x2, ty2, pos2, af2, none⟩ := by rw [gets, List.getElem?_append_right (by omega)]; simp [hLn]
      have hget : ∀ k, k < n → ops[k]? = L.toArray[k]? := fun k hk => by rw [gets, List.getElem?_append_left (by omega)]; simp
      have hptr : ptrsOf ops.toList = [p1, p2] := by
        rw [hops, ptrs_app, ptrs_none L fun o ho => (hpre o ho).2]; rfl
      rw [hops, tops_append] at ht
      obtain ⟨Sn, ht1, ht2⟩ := Option.bind_eq_some_iff.1 ht
      rw [tops_congr (pre := L.toArray) L S fun o ho => ⟨(hpre o ho).1, (hpre o ho).2⟩] at ht1
      simp only [tops, opG, opC, stB_st, hptr] at ht2
      cases ha1 : apAll E.P Sn t1 p1 [p1, p2] with
      | false => rw [ha1] at ht2; simp at ht2
      | true =>
        rw [ha1, cond_true] at ht2
        obtain ⟨S1, e1, ht2⟩ := Option.bind_eq_some_iff.1 ht2
        cases ha2 : apAll E.P S1 t2 p2 [p1, p2] with
        | false => rw [ha2] at ht2; simp at ht2
        | true =>
          rw [ha2, cond_true] at ht2
          obtain ⟨S2, e2, ht2⟩ := Option.bind_eq_some_iff.1 ht2
          obtain rfl := Option.some.inj ht2
          obtain ⟨S3, S4, e3, e4, w1, w2, w3⟩ := two_swap hne ha1 ha2 e1 e2
          obtain ⟨H, h0, hHn, hH⟩ := tops_hist L S Sn ht1
          have hH' : ∀ i o, L.toArray[i]? = some o → Eff E cl L.toArray (H i) o (H (i + 1)) := fun i o hi => hH i o (by simpa using hi)
          subst h0
          refine wp_region_any hm ?_
          have hdp : ∀ (i : Nat) (o : Oper), L.toArray[i]? = some o → ∀ t, o.dst = some t → t < m := fun i o hi => hd o (by rw [hops]; exact List.mem_append_left _ (List.mem_of_getElem? (by simpa using hi)))
          have key := any_sound (Q := atEnd Q fun a w => ∃ K', K'.w = w ∧ Inv m w0 F0 K' Sn a) hokp hH' hcl hdp (fun K' a' hh => ⟨K', rfl, by
              have : L.toArray.size = L.length := by simp
              rw [← hHn, ← this]; exact hh⟩) L.toArray.size (Array.replicate L.toArray.size false)
            (RInv.ofFull (D := fun _ => False) hokp hH' h.drew (Nat.zero_le _) (fun k => by simp) (fun p _ => Nat.zero_le p)) (by simp) (fun k => by rw [Array.getElem?_replicate]; split <;> simp) (by
              refine Nat.le_trans (List.length_filter_le _ _) (by simp))
          rw [hs]
          have := any_pre ps hs hget (fun k o ho => (hpre o (List.mem_of_getElem? (by simpa using ho))).1) (okDraw_down hokp) h1 h2 c1 c2 (Q := Q) (N := fun a w => ∃ K', K'.w = w ∧ Inv m w0 F0 K' Sn a) (fun a w hN fuel l' q1 q2 q3 => ?_) L.toArray.size (Array.replicate L.toArray.size false) (Array.replicate (n + 2) false) (by simpa using hLn) (fun k hk => by
              rw [Array.getElem?_replicate, Array.getElem?_replicate, if_pos (by omega), if_pos (by omega)]) (by rw [Array.getElem?_replicate, if_pos (by omega)]) (by rw [Array.getElem?_replicate, if_pos (by omega)]) _ _ key
          · rw [ps] at this; exact this
          · obtain ⟨K', rfl, hi⟩ := hN
            refine two_final hs h1 h2 rfl rfl c1 c2 q1 q2 q3 ?_ ?_
            · exact opA_sound hcl hi (fun t ht => by simp at ht) e1 fun K1 a1 hi1 => opA_sound hcl hi1 (fun t ht => by simp at ht) e2 fun K2 a2 hi2 => hq K2 a2 hi2
            · exact opA_sound hcl hi (fun t ht => by simp at ht) e3 fun K1 a1 hi1 => opA_sound hcl hi1 (fun t ht => by simp at ht) e4 fun K2 a2 hi2 => hq K2 a2 (hi2.objeq w1.symm w2.symm fun q => (w3 q).symm)
    · simp at hst
  · simp at hend
end
end Go.Proofs.Yticjlkommabcjaa.Tev
