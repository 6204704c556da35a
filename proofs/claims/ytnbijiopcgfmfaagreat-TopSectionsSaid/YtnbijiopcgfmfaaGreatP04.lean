/- Part 4: TevDraw, TevCode. -/
import Derived.Test.YtnbijiopcgfmfaaGreatP03
/- Regions whose order is drawn: the proof. -/
namespace Go.Proofs.YtnbijiopcgfmfaaGreat.Tev
open Go Go.RowKit
set_option linter.unusedSectionVars false
set_option linter.unusedVariables false
set_option linter.unusedSimpArgs false
section
variable {E : Env} {cl : FuncId → List T → Option R} {ops : Array Oper} {nd : List (Nat × Nat)}

/-! What the check tells. -/
theorem okDraw_down (hok : okDraw nd ops = true) : ∀ i o, ops[i]? = some o → ∀ e ∈ o.after.toList, Region.binds .any e = true → e.on < i := by
  intro i o hi e he hb
  simp only [okDraw, List.all_eq_true] at hok
  have := hok (o, i) (List.mem_zipIdx_iff_getElem?.2 (by simpa using hi))
  simp only [Bool.and_eq_true, List.all_eq_true] at this
  have := this.1 e he
  simpa [hb] using this
/-- Two operations that may come in any order. -/
def Free (nd : List (Nat × Nat)) (ops : Array Oper) (i : Nat) (x : Oper) (j : Nat) (y : Oper) : Prop :=
  (isW x.op = false ∧ isW y.op = false ∧ ¬ (isA x.op = true ∧ isA y.op = true)) ∨ (isP x.op = true ∧ isW y.op = true ∧ y.dst = none) ∨ (isW x.op = true ∧ x.dst = none ∧ isP y.op = true) ∨ apartOk nd ops i x j y = true ∨ apartOk nd ops j y i x = true
theorem isP_w {o : Op} (h : isP o = true) : isW o = false := by
  cases o <;> simp [isP] at h <;> rfl
theorem isL_w {o : Op} (h : isL o = true) : isW o = false := by
  cases o <;> simp [isL] at h <;> rfl
theorem soft_w {o : Op} (h : soft o = true) : isW o = false := by
  simp only [soft, Bool.or_eq_true] at h
  exact h.elim isP_w isL_w
theorem isA_soft {o : Op} (h : isA o = true) : soft o = false ∧ isW o = false := by
  cases o <;> simp [isA] at h
  exact ⟨rfl, rfl⟩
theorem apart_inv {k i : Nat} {s l : Oper} (h : apartOk nd ops k s i l = true) : ∃ ty p v ty' q, s.op = .store ty (.tmp p) v ∧ l.op = .load ty' (.tmp q) ∧ s.dst = none ∧ (p, q) ∈ nd ∧
    (∀ j o, k ≤ j → ops[j]? = some o → o.dst ≠ some p) ∧ (∀ j o, i ≤ j → ops[j]? = some o → o.dst ≠ some q) := by
  have st : ∀ k t, still ops k t = true → ∀ (j : Nat) o, k ≤ j → ops[j]? = some o → o.dst ≠ some t := fun k t h j o hj ho => by
    unfold still at h
    have := List.all_eq_true.1 h o (List.mem_of_getElem? (i := j - k) (by rw [List.getElem?_drop, show k + (j - k) = j by omega]; simpa using ho))
    simpa using this
  unfold apartOk at h
  split at h
  · rename_i ty p v ty' q e1 e2
    simp only [Bool.and_eq_true, Option.isNone_iff_eq_none] at h
    exact ⟨ty, p, v, ty', q, e1, e2, h.1.1.1, by simpa using h.1.1.2, st _ _ h.1.2, st _ _ h.2⟩
  · simp at h
theorem apart_kind {k i : Nat} {s l : Oper} (h : apartOk nd ops k s i l = true) : isW s.op = true ∧ soft s.op = false ∧ isA s.op = false ∧ isL l.op = true ∧ soft l.op = true ∧ isW l.op = false ∧ isA l.op = false ∧ isP l.op = false := by
  obtain ⟨ty, p, v, ty', q, e1, e2, _⟩ := apart_inv h
  rw [e1, e2]
  exact ⟨rfl, rfl, rfl, rfl, rfl, rfl, rfl, rfl⟩
theorem okDraw_pair (hok : okDraw nd ops = true) {i j : Nat} {x y : Oper} (hi : ops[i]? = some x) (hj : ops[j]? = some y) (h : i < j) :
    ((ancs ops.toList []).getD j 0).testBit i = true ∨ (disj ops x y = true ∧ Free nd ops i x j y) := by
  simp only [okDraw, List.all_eq_true] at hok
  have := hok (y, j) (List.mem_zipIdx_iff_getElem?.2 (by simpa using hj))
  simp only [Bool.and_eq_true, List.all_eq_true] at this
  have := this.2 (x, i) (List.mem_zipIdx_iff_getElem?.2 (by simpa using hi))
  simp only [Bool.or_eq_true, decide_eq_true_eq, pairOk, Bool.and_eq_true, Bool.not_eq_true', Option.isNone_iff_eq_none] at this
  rcases this with h1 | ((h1 | h1) | h1) | h1
  · omega
  · exact .inl h1
  · refine .inr ⟨h1.2, .inl ⟨h1.1.1.1, h1.1.1.2, fun h2 => ?_⟩⟩
    rw [h2.1, h2.2] at h1; simp at h1
  · refine .inr ⟨h1.2, ?_⟩
    rcases h1.1 with h2 | h2
    · exact .inr (.inl ⟨h2.1.1, h2.1.2, h2.2⟩)
    · exact .inr (.inr (.inl ⟨h2.1.1, h2.1.2, h2.2⟩))
  · exact .inr ⟨h1.2, .inr (.inr (.inr h1.1))⟩
/-- An operation whose edges are kept by the set. -/
def Enab (ops : Array Oper) (D : Nat → Prop) (j : Nat) (y : Oper) : Prop := ops[j]? = some y ∧ ∀ e ∈ y.after.toList, Region.binds .any e = true → D e.on
theorem ord (hok : okDraw nd ops = true) {D : Nat → Prop} (hD : Closed ops D) {i j : Nat} {x y : Oper} (hi : ops[i]? = some x) (hj : Enab ops D j y) (h : i < j) :
    D i ∨ (disj ops x y = true ∧ Free nd ops i x j y) := by
  rcases okDraw_pair hok hi hj.1 h with h1 | h1
  · exact .inl (ancs_closed (okDraw_down hok) hD j y hj.1 hj.2 i h1)
  · exact .inr h1
def Wat (ops : Array Oper) (k : Nat) : Prop := ∃ o, ops[k]? = some o ∧ isW o.op = true
def Wr (ops : Array Oper) (k t : Nat) : Prop := ∃ o, ops[k]? = some o ∧ o.dst = some t
/-- A place in the text whose writes are those that were executed. -/
structure Con (ops : Array Oper) (D : Nat → Prop) (p : Nat) : Prop where
  le : p ≤ ops.size
  lo : ∀ k, k < p → Wat ops k → D k
  hi : ∀ k, p ≤ k → Wat ops k → ¬ D k

structure Wf (S : St) : Prop where
  lt : ∀ o x, obj S.o o = some x → o < S.n
  grp : ∀ o l g e, obj S.o o = some (.arr l g e) → g < S.n

/-! The states of the text. -/
theorem opA_inv {S S1 : St} {o : Oper} (h : opA E cl true S o = some S1) :
    (isW o.op = true ∧ ∃ os, opW E S o = some os ∧ S1 = St.putO { S with o := os } o.dst .und) ∨ (isW o.op = false ∧ ∃ x nw, opN E cl S o = some (x, nw, []) ∧ S1 = (S.add [] nw).putO o.dst x) := by
  unfold opA at h
  split at h
  · rename_i hw
    obtain ⟨os, h1, h2⟩ := Option.map_eq_some_iff.1 h
    exact .inl ⟨hw, os, h1, h2.symm⟩
  · rename_i hw
    obtain ⟨⟨x, nw, fz⟩, h1, h2⟩ := Option.bind_eq_some_iff.1 h
    cases fz with
    | cons a b => simp [frOk] at h2
    | nil => simp [frOk] at h2; exact .inr ⟨by simpa using hw, x, nw, h1, h2.symm⟩
theorem putO_o (S : St) (d : Option Nat) (x : T) : (S.putO d x).o = S.o := by cases d <;> rfl
theorem putO_n (S : St) (d : Option Nat) (x : T) : (S.putO d x).n = S.n := by cases d <;> rfl
theorem get_putO (S : St) (d : Option Nat) (x : T) (t : Nat) : get (S.putO d x).t t = if d = some t then x else get S.t t := by
  cases d with
  | none => simp [St.putO]
  | some d => show get (S.put d x).t t = _; rw [get_put]; simp
theorem frzGs_nil (l : List (Nat × Ob)) : frzGs [] l = l := rfl
theorem add_o (S : St) (nw : List Ob) (o : Nat) : obj (S.add [] nw).o o = if S.n ≤ o ∧ o < S.n + nw.length then nw[o - S.n]? else obj S.o o := obj_addO _ _ _ _
/-- What does not write leaves the elder objects and adds new ones. -/
theorem eff_n {S S1 : St} {o : Oper} (h : Eff E cl ops S o S1) : S.n ≤ S1.n := by
  cases h with
  | run Sg hg ho hn hw h =>
    rcases opA_inv h with ⟨_, os, _, rfl⟩ | ⟨_, x, nw, _, rfl⟩
    · rw [putO_n]; show S.n ≤ Sg.n; omega
    · rw [putO_n]; show S.n ≤ Sg.n + nw.length; omega
  | skip hg ho hn hw => omega
theorem opN_soft {S : St} {o : Oper} {x : T} {nw : List Ob} {fz : List Nat} (h : opN E cl S o = some (x, nw, fz)) (hp : soft o.op = true) : nw = [] ∧ fz = [] := by
  obtain ⟨d, op, ty, pos, af, gg⟩ := o
  have v : ∀ {r : Option T}, v0 r = some (x, nw, fz) → nw = [] ∧ fz = [] := fun {r} h => by
    unfold v0 at h
    obtain ⟨z, _, h2⟩ := Option.map_eq_some_iff.1 h
    simp only [Prod.mk.injEq] at h2
    exact ⟨h2.2.1.symm, h2.2.2.symm⟩
  cases op <;> simp [soft, isP, isL] at hp <;> simp only [opN] at h <;> first | exact v h | (simp only [Option.some.injEq, Prod.mk.injEq] at h; exact ⟨h.2.1.symm, h.2.2.symm⟩)
theorem ev_t {S S' : St} (ht : S'.t = S.t) (z : Operand) : S'.ev z = S.ev z := by cases z <;> simp only [St.ev, ht]
theorem opN_Pany {S S' : St} {o : Oper} (hp : isP o.op = true) (ht : S'.t = S.t) : opN E cl S' o = opN E cl S o := by
  obtain ⟨d, op, ty, pos, af, gg⟩ := o
  cases op <;> simp [isP] at hp <;> simp only [opN, ev_t ht]
/-- A load looks at one box only. -/
theorem load_same {S S' : St} {o : Oper} {ty : TypeId} {q : Nat} (ho : o.op = .load ty (.tmp q)) (ht : S'.t = S.t) (hb : ∀ b off, get S.t q = .pt b off → obj S'.o b = obj S.o b) : opN E cl S' o = opN E cl S o := by
  obtain ⟨d, op, ty', pos, af, gg⟩ := o
  simp only at ho
  subst ho
  have e : S'.ev (.tmp q) = S.ev (.tmp q) := ev_t ht _
  have e2 : S.ev (.tmp q) = get S.t q := rfl
  simp only [opN, e]
  unfold loadT
  rw [e2]
  cases hg : get S.t q with
  | pt b off => simp only [hb b off hg]
  | _ => rfl
theorem eff_nP {S S1 : St} {o : Oper} (h : Eff E cl ops S o S1) (hp : soft o.op = true) : S1.n = S.n := by
  cases h with
  | run Sg hg ho hn hw h =>
    rcases opA_inv h with ⟨hW, _⟩ | ⟨_, x, nw, hN, rfl⟩
    · rw [soft_w hp] at hW; simp at hW
    · rw [putO_n]; show Sg.n + nw.length = _; rw [(opN_soft hN hp).1]; exact hn
  | skip hg ho hn hw => exact hn
/-- What a store leaves. -/
theorem opW_inv {S : St} {o : Oper} {os : List (Nat × Ob)} (h : opW E S o = some os) : (∃ p x y, obj S.o p = some x ∧ os = setO p y S.o ∧ (∀ l, y = .box l → ∃ l', x = .box l') ∧ (∀ l g e, y ≠ .arr l g e) ∧ ∀ ty t v, o.op = .store ty (.tmp t) v → ∃ off, get S.t t = .pt p off) ∨
    (∃ p l g e l', obj S.o p = some (.arr l g e) ∧ os = killG g p (setO p (.arr l' g e) S.o) ∧ ∀ ty t v, o.op = .store ty (.tmp t) v → ∃ off, get S.t t = .pt p off) := by
  obtain ⟨d, op, ty, pos, af, gg⟩ := o
  cases op <;> simp only [opW] at h <;> first | (simp at h; done) | skip
  case store t1 y1 z1 =>
    unfold storeT at h
    obtain ⟨sz, _, h⟩ := Option.bind_eq_some_iff.1 h
    obtain ⟨v, _, h⟩ := Option.bind_eq_some_iff.1 h
    split at h
    · split at h
      · rename_i p off hev
        have hpt : ∀ (ty : TypeId) (t : Nat) (v : Operand), Op.store t1 y1 z1 = Op.store ty (.tmp t) v → ∃ off, get S.t t = .pt p off := fun ty t v e => by
          simp only [Op.store.injEq] at e
          rw [e.2.1] at hev
          exact ⟨off, hev⟩
        split at h
        · rename_i l hl
          split at h
          · exact .inl ⟨p, _, _, hl, (Option.some.inj h).symm, fun _ _ => ⟨l, rfl⟩, fun _ _ _ e => by simp at e, hpt⟩
          · simp at h
        · rename_i l g gen hl
          split at h
          · split at h
            · exact .inr ⟨p, l, g, gen, _, hl, (Option.some.inj h).symm, hpt⟩
            · simp at h
          · simp at h
        · simp at h
      · simp at h
    · simp at h
  case mapUpdate t1 m1 k1 x1 =>
    unfold mapUpdateT at h
    obtain ⟨_, _, h⟩ := Option.bind_eq_some_iff.1 h
    split at h
    · rename_i p kk ki x _ _ _
      split at h
      · rename_i es cc hl
        obtain ⟨r, _, h2⟩ := Option.map_eq_some_iff.1 h
        exact .inl ⟨p, _, _, hl, h2.symm, fun _ e => by simp at e, fun _ _ _ e => by simp at e, fun _ _ _ e => by simp at e⟩
      · simp at h
    · simp at h
theorem kill1_box {g p q : Nat} {z : Ob} {l : List T} (h : kill1 g p q z = .box l) : z = .box l := by
  cases z <;> simp only [kill1] at h <;> first | exact h | (split at h <;> simp at h)
theorem kill1_arr {g p q : Nat} {z : Ob} {l : List C} {g' e' : Nat} (h : kill1 g p q z = .arr l g' e') : z = .arr l g' e' := by
  cases z <;> simp only [kill1] at h <;> first | exact h | (split at h <;> first | exact h | simp at h)
theorem opW_back {S : St} {o : Oper} {os : List (Nat × Ob)} (h : opW E S o = some os) (q : Nat) {z : Ob} (hz : obj os q = some z) : (∃ z', obj S.o q = some z') ∧ (∀ l, z = .box l → ∃ l', obj S.o q = some (.box l')) ∧ (∀ l g e, z = .arr l g e → ∃ l', obj S.o q = some (.arr l' g e)) := by
  rcases opW_inv h with ⟨p, x, y, h1, rfl, h2, h3, _⟩ | ⟨p, l, g, e, l', h1, rfl, _⟩
  · rw [obj_setO] at hz
    split at hz
    · rename_i hq
      subst hq
      rw [h1] at hz
      obtain rfl := Option.some.inj hz
      refine ⟨⟨_, h1⟩, fun l e => ?_, fun l g e1 e2 => absurd e2 (h3 l g e1)⟩
      obtain ⟨l', rfl⟩ := h2 l e
      exact ⟨l', h1⟩
    · exact ⟨⟨_, hz⟩, fun l e => ⟨l, e ▸ hz⟩, fun l g e1 e => ⟨l, e ▸ hz⟩⟩
  · rw [obj_killG, obj_setO] at hz
    obtain ⟨u, hu, hk⟩ := Option.map_eq_some_iff.1 hz
    split at hu
    · rename_i hq
      subst hq
      rw [h1] at hu
      have hu : Ob.arr l' g e = u := Option.some.inj hu
      subst hu
      refine ⟨⟨_, h1⟩, fun l2 e2 => ?_, fun l2 g2 e3 e2 => ?_⟩
      · rw [e2] at hk
        have := kill1_box hk
        simp at this
      · rw [e2] at hk
        have := kill1_arr hk
        simp only [Ob.arr.injEq] at this
        obtain ⟨_, rfl, rfl⟩ := this
        exact ⟨l, h1⟩
    · refine ⟨⟨_, hu⟩, fun l2 e2 => ?_, fun l2 g2 e3 e2 => ?_⟩
      · rw [e2] at hk
        exact ⟨l2, (kill1_box hk) ▸ hu⟩
      · rw [e2] at hk
        exact ⟨l2, (kill1_arr hk) ▸ hu⟩
theorem eff_get {S S1 : St} {o : Oper} (h : Eff E cl ops S o S1) (t : Nat) (ht : o.dst ≠ some t) : get S1.t t = get S.t t := by
  cases h with
  | run Sg hg ho hn hw h =>
    rcases opA_inv h with ⟨_, os, _, rfl⟩ | ⟨_, x, nw, _, rfl⟩
    · rw [get_putO, if_neg ht]; exact hg t
    · rw [get_putO, if_neg ht]; exact hg t
  | skip hg ho hn hw => rw [hg, get_putO, if_neg ht]
theorem eff_old {S S1 : St} {o : Oper} (h : Eff E cl ops S o S1) (hw : isW o.op = false) (q : Nat) (hq : q < S.n) : obj S1.o q = obj S.o q := by
  cases h with
  | run Sg hg ho hn _ h =>
    rcases opA_inv h with ⟨h1, _⟩ | ⟨_, x, nw, _, rfl⟩
    · rw [hw] at h1; simp at h1
    · rw [putO_o, add_o, if_neg (by omega), ho]
  | skip hg ho hn _ => rw [ho]
theorem eff_wf {S S1 : St} {o : Oper} (h : Eff E cl ops S o S1) (hw : isW o.op = false) (hf : Wf S) : Wf S1 := by
  cases h with
  | run Sg hg ho hn _ h =>
    rcases opA_inv h with ⟨h1, _⟩ | ⟨_, x, nw, hN, rfl⟩
    · rw [hw] at h1; simp at h1
    · have hfg : Wf Sg := ⟨fun o x => by rw [ho, hn]; exact hf.lt o x, fun o l g e => by rw [ho, hn]; exact hf.grp o l g e⟩
      refine ⟨fun q y hy => ?_, fun q l g e hy => ?_⟩
      · rw [putO_o, add_o] at hy; rw [putO_n]; show q < Sg.n + nw.length
        split at hy
        · omega
        · have := hfg.lt _ _ hy; omega
      · rw [putO_o, add_o] at hy; rw [putO_n]; show g < Sg.n + nw.length
        split at hy
        · rcases opN_grp hN (List.mem_of_getElem? hy) with h1 | ⟨_, p, l0, e0, h1⟩
          · exact h1.2
          · have := hfg.grp _ _ _ _ h1; omega
        · have := hfg.grp _ _ _ _ hy; omega
  | skip hg ho hn _ => exact ⟨fun o x => by rw [ho, hn]; exact hf.lt o x, fun o l g e => by rw [ho, hn]; exact hf.grp o l g e⟩

/-- All names are below the next one, at all times. -/
theorem eff_wfAll {S S1 : St} {o : Oper} (h : Eff E cl ops S o S1) (hf : Wf S) : Wf S1 := by
  cases hw : isW o.op with
  | false => exact eff_wf h hw hf
  | true =>
    cases h with
    | run Sg hg ho hn _ h =>
      rcases opA_inv h with ⟨_, os, hW, rfl⟩ | ⟨h1, _⟩
      · refine ⟨fun q x hx => ?_, fun q l g e hx => ?_⟩
        · rw [putO_o] at hx; rw [putO_n]; show q < Sg.n
          obtain ⟨⟨z, hz⟩, _⟩ := opW_back hW q hx
          rw [hn]; exact hf.lt q z (by rw [← ho]; exact hz)
        · rw [putO_o] at hx; rw [putO_n]; show g < Sg.n
          obtain ⟨l', hz⟩ := (opW_back hW q hx).2.2 l g e rfl
          rw [hn]; exact hf.grp q l' g e (by rw [← ho]; exact hz)
      · rw [hw] at h1; simp at h1
    | skip hg ho hn _ => exact ⟨fun o x => by rw [ho, hn]; exact hf.lt o x, fun o l g e => by rw [ho, hn]; exact hf.grp o l g e⟩
theorem eff_box {S S1 : St} {o : Oper} (h : Eff E cl ops S o S1) {q : Nat} (hq : q < S.n) {l : List T} (hb : obj S1.o q = some (.box l)) : ∃ l', obj S.o q = some (.box l') := by
  cases hw : isW o.op with
  | false => exact ⟨l, by rw [← eff_old h hw q hq]; exact hb⟩
  | true =>
    cases h with
    | run Sg hg ho hn _ h =>
      rcases opA_inv h with ⟨_, os, hW, rfl⟩ | ⟨h1, _⟩
      · rw [putO_o] at hb
        obtain ⟨l', hz⟩ := (opW_back hW q hb).2.1 l rfl
        exact ⟨l', by rw [← ho]; exact hz⟩
      · rw [hw] at h1; simp at h1
    | skip hg ho hn _ => exact ⟨l, by rw [← ho]; exact hb⟩
section
variable {H : Nat → St} (hH : ∀ i o, ops[i]? = some o → Eff E cl ops (H i) o (H (i + 1)))
include hH
theorem H_n {p q : Nat} (hpq : p ≤ q) (hq : q ≤ ops.size) : (H p).n ≤ (H q).n := by
  induction q with
  | zero => obtain rfl : p = 0 := by omega
            exact Nat.le_refl _
  | succ q ih =>
    rcases Nat.lt_or_ge p (q + 1) with h | h
    · exact Nat.le_trans (ih (by omega) (by omega)) (eff_n (hH q ops[q] (Array.getElem?_eq_getElem (by omega))))
    · obtain rfl : p = q + 1 := by omega
      exact Nat.le_refl _
theorem H_get {p q t : Nat} (hpq : p ≤ q) (hq : q ≤ ops.size) (hw : ∀ k, p ≤ k → k < q → ¬ Wr ops k t) : get (H q).t t = get (H p).t t := by
  induction q with
  | zero => obtain rfl : p = 0 := by omega
            rfl
  | succ q ih =>
    rcases Nat.lt_or_ge p (q + 1) with h | h
    · have he := hH q ops[q] (Array.getElem?_eq_getElem (by omega))
      rw [eff_get he t (fun hd => hw q (by omega) (by omega) ⟨_, Array.getElem?_eq_getElem (by omega), hd⟩)]
      exact ih (by omega) (by omega) fun k h1 h2 => hw k h1 (by omega)
    · obtain rfl : p = q + 1 := by omega
      rfl
theorem H_old {p q o : Nat} (hpq : p ≤ q) (hq : q ≤ ops.size) (hw : ∀ k, p ≤ k → k < q → ¬ Wat ops k) (ho : o < (H p).n) : obj (H q).o o = obj (H p).o o := by
  induction q with
  | zero => obtain rfl : p = 0 := by omega
            rfl
  | succ q ih =>
    rcases Nat.lt_or_ge p (q + 1) with h | h
    · have hq' : ops[q]? = some ops[q] := Array.getElem?_eq_getElem (by omega)
      have he := hH q ops[q] hq'
      have hnw : isW ops[q].op = false := by
        cases hb : isW ops[q].op with
        | false => rfl
        | true => exact absurd ⟨_, hq', hb⟩ (hw q (by omega) (by omega))
      rw [eff_old he hnw o (Nat.lt_of_lt_of_le ho (H_n hH (by omega) (by omega)))]
      exact ih (by omega) (by omega) fun k h1 h2 => hw k h1 (by omega)
    · obtain rfl : p = q + 1 := by omega
      rfl
theorem H_wf {p q : Nat} (hpq : p ≤ q) (hq : q ≤ ops.size) (hw : ∀ k, p ≤ k → k < q → ¬ Wat ops k) (hf : Wf (H p)) : Wf (H q) := by
  induction q with
  | zero => obtain rfl : p = 0 := by omega
            exact hf
  | succ q ih =>
    rcases Nat.lt_or_ge p (q + 1) with h | h
    · have hq' : ops[q]? = some ops[q] := Array.getElem?_eq_getElem (by omega)
      have hnw : isW ops[q].op = false := by
        cases hb : isW ops[q].op with
        | false => rfl
        | true => exact absurd ⟨_, hq', hb⟩ (hw q (by omega) (by omega))
      exact eff_wf (hH q ops[q] hq') hnw (ih (by omega) (by omega) fun k h1 h2 => hw k h1 (by omega))
    · obtain rfl : p = q + 1 := by omega
      exact hf
/-- Who made a name. -/
theorem H_made {q o : Nat} (hq : q ≤ ops.size) (h0 : (H 0).n ≤ o) (h1 : o < (H q).n) : ∃ k, k < q ∧ (H k).n ≤ o ∧ o < (H (k + 1)).n := by
  induction q with
  | zero => omega
  | succ q ih =>
    rcases Nat.lt_or_ge o (H q).n with h | h
    · obtain ⟨k, h2, h3⟩ := ih (by omega) h
      exact ⟨k, by omega, h3⟩
    · exact ⟨q, by omega, h, h1⟩
end
/-- Two places that agree with the executed set have no write between them. -/
theorem Con.between {D : Nat → Prop} {p q : Nat} (hp : Con ops D p) (hq : Con ops D q) : ∀ k, p ≤ k → k < q → ¬ Wat ops k := fun k h1 h2 hk => hp.hi k h1 hk (hq.lo k h2 hk)

/-- The invariant when only some were executed. -/
structure RInv (m : Nat) (w0 : World) (F0 : Nat → Prop) (ops : Array Oper) (H : Nat → St) (K : Ctx) (D : Nat → Prop) (OB : Nat → Option Ob) (a : Act) : Prop where
  good : Good K
  base : K.base = w0.heap.size
  below : Below w0.heap.size w0 K.w
  Fin : ∀ b, F0 b → K.F b
  Fout : ∀ b, K.F b → F0 b ∨ w0.heap.size ≤ b
  size : a.tmps.size = m
  defers : a.defers = []
  closed : Closed ops D
  lt : ∀ i, D i → i < ops.size
  tm : ∀ t, ∃ j, j ≤ ops.size ∧ RT K (get (H j).t t) (a.tmps.getD t undef) ∧ (∀ i, i < j → Wr ops i t → D i) ∧ (∀ i, j ≤ i → Wr ops i t → ¬ D i)
  oi : OInv K OB
  see : ∀ p, Con ops D p → ∀ o x, obj (H p).o o = some x → K.σ o ≠ none → OB o = some x
  back : ∀ p, Con ops D p → ∀ o x, OB o = some x → o < (H p).n → obj (H p).o o = some x
  wf : ∀ p, Con ops D p → Wf (H p)
  dom : ∀ o, K.σ o ≠ none → o < (H 0).n ∨ ∃ i, D i ∧ (H i).n ≤ o ∧ o < (H (i + 1)).n
  has : ∀ p, Con ops D p → ∀ o x, obj (H p).o o = some x → (o < (H 0).n ∨ ∃ i, D i ∧ (H i).n ≤ o ∧ o < (H (i + 1)).n) → K.σ o ≠ none
section
variable {m : Nat} {w0 : World} {F0 : Nat → Prop} {K : Ctx} {D : Nat → Prop} {OB : Nat → Option Ob} {a : Act} {H : Nat → St}
/-- All that is ahead in the text was executed and nothing else: the invariant of the text's order. -/
theorem RInv.full (hH : ∀ i o, ops[i]? = some o → Eff E cl ops (H i) o (H (i + 1))) (h : RInv m w0 F0 ops H K D OB a) {i : Nat} (hi : i ≤ ops.size) (hD : ∀ k, D k ↔ k < i) : Inv m w0 F0 K (H i) a := by
  have hcon : Con ops D i := ⟨hi, fun k hk _ => (hD k).2 hk, fun k hk _ hd => by have := (hD k).1 hd; omega⟩
  have hwf := h.wf i hcon
  have hnames : ∀ o, K.σ o ≠ none → o < (H i).n := fun o ho => by
    rcases h.dom o ho with h1 | ⟨k, h1, h2, h3⟩
    · exact Nat.lt_of_lt_of_le h1 (H_n hH (by omega) hi)
    · exact Nat.lt_of_lt_of_le h3 (H_n hH ((hD k).1 h1) hi)
  have hOB : OB = obj (H i).o := by
    funext o
    cases ho : obj (H i).o o with
    | some x =>
      refine h.see i hcon o x ho ?_
      have hlt := hwf.lt _ _ ho
      refine h.has i hcon o x ho ?_
      rcases Nat.lt_or_ge o (H 0).n with h1 | h1
      · exact .inl h1
      · obtain ⟨k, h2, h3, h4⟩ := H_made hH hi h1 hlt
        exact .inr ⟨k, (hD k).2 h2, h3, h4⟩
    | none =>
      cases hb : OB o with
      | none => rfl
      | some x =>
        have := h.back i hcon o x hb (hnames o (h.oi.dom o x hb))
        rw [ho] at this; simp at this
  exact {
    good := h.good, base := h.base, below := h.below, Fin := h.Fin, Fout := h.Fout, size := h.size, defers := h.defers
    tm := fun t => by
      obtain ⟨j, hj, h1, h2, h3⟩ := h.tm t
      rcases Nat.le_total j i with hji | hji
      · rw [H_get hH hji hi (fun k hk1 hk2 hw => h3 k hk1 hw ((hD k).2 hk2))]; exact h1
      · rw [← H_get hH hji hj (fun k hk1 hk2 hw => by have := (hD k).1 (h2 k hk2 hw); omega)]; exact h1
    oi := hOB ▸ h.oi
    fresh := fun o ho => by
      cases hs : K.σ o with
      | none => rfl
      | some s => have := hnames o (by rw [hs]; simp); omega
    grp := hwf.grp }
theorem RInv.ofFull (hok : okDraw nd ops = true) (hH : ∀ i o, ops[i]? = some o → Eff E cl ops (H i) o (H (i + 1))) {j : Nat} (h : Inv m w0 F0 K (H j) a) (hj : j ≤ ops.size) (hD : ∀ k, D k ↔ k < j) (hp : ∀ p, Con ops D p → j ≤ p) : RInv m w0 F0 ops H K D (obj (H j).o) a := by
  have hlt : ∀ o, K.σ o ≠ none → o < (H j).n := fun o ho => by
    rcases Nat.lt_or_ge o (H j).n with h1 | h1
    · exact h1
    · exact absurd (h.fresh o h1) ho
  have hnw : ∀ {p}, Con ops D p → ∀ k, j ≤ k → k < p → ¬ Wat ops k := fun hp k h1 hk hw => by
    have := (hD k).1 (hp.lo k hk hw); omega
  have hold : ∀ {p}, Con ops D p → ∀ o, o < (H j).n → obj (H p).o o = obj (H j).o o := fun hc o ho => H_old hH (hp _ hc) hc.le (hnw hc) ho
  have hwf : Wf (H j) := ⟨fun o x hx => hlt o (h.oi.dom o x hx), h.grp⟩
  exact {
    good := h.good, base := h.base, below := h.below, Fin := h.Fin, Fout := h.Fout, size := h.size, defers := h.defers
    closed := fun i o hi hd e h1 h2 => (hD _).2 (Nat.lt_trans (okDraw_down hok i o hi e h1 h2) ((hD i).1 hd))
    lt := fun i hd => by have := (hD i).1 hd; omega
    tm := fun t => ⟨j, hj, h.tm t, fun i hi _ => (hD i).2 hi, fun i hi _ hd => by have := (hD i).1 hd; omega⟩
    oi := h.oi
    see := fun p hc o x hx hs => by rw [← hold hc o (hlt o hs)]; exact hx
    back := fun p hc o x hx _ => by rw [hold hc o (hlt o (h.oi.dom o x hx))]; exact hx
    wf := fun p hc => H_wf hH (hp p hc) hc.le (hnw hc) hwf
    dom := fun o ho => by
      rcases Nat.lt_or_ge o (H 0).n with h1 | h1
      · exact .inl h1
      · obtain ⟨k, h2, h3⟩ := H_made hH hj h1 (hlt o ho)
        exact .inr ⟨k, (hD k).2 h2, h3⟩
    has := fun p hc o x hx ho => by
      have : o < (H j).n := by
        rcases ho with h1 | ⟨i, h1, h2, h3⟩
        · exact Nat.lt_of_lt_of_le h1 (H_n hH (Nat.zero_le _) hj)
        · exact Nat.lt_of_lt_of_le h3 (H_n hH ((hD i).1 h1) hj)
      rw [hold hc o this] at hx; exact h.oi.dom o x hx }
theorem free_w {i j : Nat} {x y : Oper} (h : Free nd ops i x j y) (hy : soft y.op = false) (hw : isW x.op = true) : False := by
  rcases h with h | h | h | h | h
  · rw [h.1] at hw; simp at hw
  · rw [isP_w h.1] at hw; simp at hw
  · simp [soft, h.2.2] at hy
  · rw [(apart_kind h).2.2.2.2.1] at hy; simp at hy
  · rw [(apart_kind h).2.2.2.2.2.1] at hw; simp at hw
theorem free_w' {i j : Nat} {x y : Oper} (h : Free nd ops i x j y) (hx : soft x.op = false) (hw : isW y.op = true) : False := by
  rcases h with h | h | h | h | h
  · rw [h.2.1] at hw; simp at hw
  · simp [soft, h.1] at hx
  · rw [isP_w h.2.2] at hw; simp at hw
  · rw [(apart_kind h).2.2.2.2.2.1] at hw; simp at hw
  · rw [(apart_kind h).2.2.2.2.1] at hx; simp at hx
/-- A ready operation's place agrees with the executed set. -/
theorem con_ready (hok : okDraw nd ops = true) (hD : Closed ops D) {i : Nat} {o : Oper} (he : Enab ops D i o) (hni : ¬ D i) (hp : soft o.op = false) : Con ops D i where
  le := by
    rcases Nat.lt_or_ge i ops.size with h | h
    · omega
    · have := he.1; simp [Array.getElem?_eq_none h] at this
  lo := fun k hk ⟨x, hx, hw⟩ => by
    rcases ord hok hD hx he hk with h1 | h1
    · exact h1
    · exact (free_w h1.2 hp hw).elim
  hi := fun k hk ⟨y, hy, hw⟩ hd => by
    rcases Nat.lt_or_ge i k with h | h
    · rcases ord hok hD he.1 ⟨hy, fun e h1 h2 => hD k y hy hd e h1 h2⟩ h with h1 | h1
      · exact hni h1
      · exact free_w' h1.2 hp hw
    · obtain rfl : i = k := by omega
      exact hni hd
theorem disj_l {x y : Oper} (h : disj ops x y = true) {d : Nat} (hd : x.dst = some d) : d ∉ y.looksAt ops ∧ y.dst ≠ some d := by
  simp only [disj, hd, Bool.and_eq_true, Bool.not_eq_true', bne_iff_ne] at h
  exact ⟨by have := h.1.1; simpa [List.contains_iff_mem] using this, h.1.2⟩
theorem disj_r {x y : Oper} (h : disj ops x y = true) {d : Nat} (hd : y.dst = some d) : d ∉ x.looksAt ops := by
  simp only [disj, hd, Bool.and_eq_true, Bool.not_eq_true'] at h
  have := h.2; simpa [List.contains_iff_mem] using this
theorem en_le {i : Nat} {o : Oper} (he : Enab ops D i o) : i < ops.size := by
  rcases Nat.lt_or_ge i ops.size with h | h
  · exact h
  · have := he.1; simp [Array.getElem?_eq_none h] at this
/-- What a ready operation looks at stands as in the text. -/
theorem looks_eq (hok : okDraw nd ops = true) (hH : ∀ i o, ops[i]? = some o → Eff E cl ops (H i) o (H (i + 1))) (hD : Closed ops D) {i : Nat} {o : Oper} (he : Enab ops D i o) (hni : ¬ D i) {t : Nat} (ht : t ∈ o.looksAt ops) {j : Nat} (hj : j ≤ ops.size)
    (h2 : ∀ i, i < j → Wr ops i t → D i) (h3 : ∀ i, j ≤ i → Wr ops i t → ¬ D i) : get (H i).t t = get (H j).t t := by
  have hle := en_le he
  rcases Nat.le_total j i with hji | hji
  · refine H_get hH hji (Nat.le_of_lt hle) (fun k hk1 hk2 hw => ?_)
    obtain ⟨x, hx, hxd⟩ := hw
    rcases ord hok hD hx he hk2 with h4 | h4
    · exact h3 k hk1 ⟨x, hx, hxd⟩ h4
    · exact (disj_l h4.1 hxd).1 ht
  · refine (H_get hH hji hj (fun k hk1 hk2 hw => ?_)).symm
    have hd := h2 k hk2 hw
    obtain ⟨y, hy, hyd⟩ := hw
    rcases Nat.lt_or_ge i k with h5 | h5
    · rcases ord hok hD he.1 ⟨hy, fun e h6 h7 => hD k y hy hd e h6 h7⟩ h5 with h4 | h4
      · exact hni h4
      · exact disj_r h4.1 hyd ht
    · obtain rfl : i = k := by omega
      exact hni hd
theorem RInv.looks (hok : okDraw nd ops = true) (hH : ∀ i o, ops[i]? = some o → Eff E cl ops (H i) o (H (i + 1))) (h : RInv m w0 F0 ops H K D OB a) {i : Nat} {o : Oper} (he : Enab ops D i o) (hni : ¬ D i) {t : Nat} (ht : t ∈ o.looksAt ops) :
    RT K (get (H i).t t) (a.tmps.getD t undef) := by
  obtain ⟨j, hj, h1, h2, h3⟩ := h.tm t
  rw [looks_eq hok hH h.closed he hni ht hj h2 h3]
  exact h1
theorem closed_add (hD : Closed ops D) {i : Nat} {o : Oper} (he : Enab ops D i o) : Closed ops (fun k => D k ∨ k = i) := by
  intro k x hx hk e h1 h2
  rcases hk with hk | rfl
  · exact .inl (hD k x hx hk e h1 h2)
  · have := he.1; rw [hx] at this; obtain rfl := Option.some.inj this
    exact .inl (he.2 e h1 h2)
theorem Con.of_add {i p : Nat} {o : Oper} (hi : ops[i]? = some o) (hw : isW o.op = false) (h : Con ops (fun k => D k ∨ k = i) p) : Con ops D p where
  le := h.le
  lo := fun k hk hwk => by
    rcases h.lo k hk hwk with h1 | rfl
    · exact h1
    · obtain ⟨x, hx, hxw⟩ := hwk
      rw [hi] at hx; obtain rfl := Option.some.inj hx
      rw [hw] at hxw; simp at hxw
  hi := fun k hk hwk hd => h.hi k hk hwk (.inl hd)
/-- The names that an operation is to make stand for nothing yet. -/
theorem RInv.fresh_at (hok : okDraw nd ops = true) (hH : ∀ i o, ops[i]? = some o → Eff E cl ops (H i) o (H (i + 1))) (h : RInv m w0 F0 ops H K D OB a) {i : Nat} {o : Oper} (he : Enab ops D i o) (hni : ¬ D i) {q : Nat} (h1 : (H i).n ≤ q) (h2 : q < (H (i + 1)).n) : K.σ q = none := by
  have hle := Nat.le_of_lt (en_le he)
  cases hs : K.σ q with
  | none => rfl
  | some s =>
    rcases h.dom q (by rw [hs]; simp) with h3 | ⟨k, h3, h4, h5⟩
    · have := H_n hH (Nat.zero_le i) hle; omega
    · rcases Nat.lt_trichotomy k i with h6 | rfl | h6
      · have := H_n hH (show k + 1 ≤ i by omega) hle; omega
      · exact absurd h3 hni
      · have := H_n hH (show i + 1 ≤ k by omega) (Nat.le_of_lt (h.lt k h3)); omega
/-- One operation that writes nothing old. -/
theorem RInv.step (hok : okDraw nd ops = true) (hH : ∀ i o, ops[i]? = some o → Eff E cl ops (H i) o (H (i + 1))) (h : RInv m w0 F0 ops H K D OB a) {i : Nat} {o : Oper} (he : Enab ops D i o) (hni : ¬ D i) (hd : ∀ t, o.dst = some t → t < m) (hw : isW o.op = false) (hcon : Con ops D i)
    {x : T} {nw : List Ob} {K' : Ctx} {val : Value} (st : Step K (H i).n (obj (H i).o) x nw [] K' val)
    (hg1 : ∀ t, get (H (i + 1)).t t = if o.dst = some t then x else get (H i).t t) (ho1 : ∀ q, obj (H (i + 1)).o q = if (H i).n ≤ q ∧ q < (H i).n + nw.length then nw[q - (H i).n]? else obj (H i).o q) (hn1 : (H (i + 1)).n = (H i).n + nw.length)
    (hlive : ∀ y ∈ nw, y ≠ .dead) (htipN : ∀ l' g gen, nw = [.arr l' g (gen + 1)] → 0 < gen → tipOk g gen (H i).o = true ∧ isA o.op = true ∧ ∃ p l0, obj (H i).o p = some (.arr l0 g gen)) :
    ∃ OB', RInv m w0 F0 ops H K' (fun k => D k ∨ k = i) OB' (a.put o.dst val) := by
  have hi : i < ops.size := by
    rcases Nat.lt_or_ge i ops.size with h | h
    · exact h
    · have := he.1; simp [Array.getElem?_eq_none h] at this
  have hfresh : ∀ q, (H i).n ≤ q → q < (H (i + 1)).n → K.σ q = none := fun q h1 h2 => by
    cases hs : K.σ q with
    | none => rfl
    | some s =>
      rcases h.dom q (by rw [hs]; simp) with h3 | ⟨k, h3, h4, h5⟩
      · have := H_n hH (Nat.zero_le i) hcon.le; omega
      · rcases Nat.lt_trichotomy k i with h6 | rfl | h6
        · have := H_n hH (show k + 1 ≤ i by omega) hcon.le; omega
        · exact absurd h3 hni
        · have := H_n hH (show i + 1 ≤ k by omega) (Nat.le_of_lt (h.lt k h3)); omega
  have hobj : ∀ q y s, obj (H i).o q = some y → K.σ q = some s → RO K s y := fun q y s h1 h2 => h.oi.objs q y s (h.see i hcon q y h1 (by rw [h2]; simp)) h2
  have hoi := OInv.step (fz := []) h.good h.oi (fun q y s h1 h2 => h.see i hcon q y h1 (by rw [h2]; simp)) (fun hf => absurd rfl hf)
    (fun j hj => hfresh _ (by omega) (by omega)) hlive (fun p l l' g gen h1 h2 h3 o' y g' e' h4 h5 => by
      obtain ⟨h6, h7, p0, l0, h8⟩ := htipN l' g gen h1 h3
      rcases Nat.lt_or_ge o' (H i).n with h9 | h9
      · exact tipOk_get h6 (h.back i hcon o' _ h4 h9) h5
      · exfalso
        rcases h.dom o' (h.oi.dom _ _ h4) with h10 | ⟨k, h10, h11, h12⟩
        · have := H_n hH (Nat.zero_le i) hcon.le; omega
        · rcases Nat.lt_trichotomy k i with h13 | rfl | h13
          · have := H_n hH (show k + 1 ≤ i by omega) hcon.le; omega
          · exact hni h10
          · have hk := h.lt k h10
            have hk' : ops[k]? = some ops[k] := Array.getElem?_eq_getElem hk
            have hek : Enab ops D k ops[k] := ⟨hk', fun e h1 h2 => h.closed k _ hk' h10 e h1 h2⟩
            have hkp : soft ops[k].op = false := by
              cases hq : soft ops[k].op with
              | false => rfl
              | true => have := eff_nP (hH k _ hk') hq; omega
            have hck : Con ops D (k + 1) := ⟨hk, fun u hu hwu => by
              rcases Nat.lt_or_ge u k with h14 | h14
              · obtain ⟨z, hz, hzw⟩ := hwu
                rcases ord hok h.closed hz hek h14 with h15 | h15
                · exact h15
                · exact (free_w h15.2 hkp hzw).elim
              · obtain rfl : u = k := by omega
                exact h10, fun u hu hwu hdu => hcon.hi u (by omega) hwu hdu⟩
            have hb := h.back (k + 1) hck o' _ h4 h12
            have hg := (h.wf i hcon).grp _ _ _ _ h8
            have hmn := H_n hH (Nat.le_of_lt h13) (Nat.le_of_lt hk)
            cases hH k _ hk' with
            | run Sg hg' ho' hn' _ hr =>
              rcases opA_inv hr with ⟨h16, _⟩ | ⟨_, x2, nw2, hN, hS⟩
              · exact hcon.hi k (by omega) ⟨_, hk', h16⟩ h10
              · rw [hS, putO_o, add_o, if_pos (by rw [hS, putO_n] at h12; exact ⟨by omega, h12⟩)] at hb
                rcases opN_grp hN (List.mem_of_getElem? hb) with h17 | ⟨h17, _⟩
                · omega
                · rcases ord hok h.closed he.1 hek h13 with h18 | h18
                  · exact hni h18
                  · rcases h18.2 with h19 | h19 | h19 | h19 | h19
                    · exact h19.2.2 ⟨h7, h17⟩
                    · have := (isA_soft h7).1; simp [soft, h19.1] at this
                    · simp [soft, h19.2.2] at hkp
                    · rw [(apart_kind h19).2.2.1] at h7; simp at h7
                    · rw [(apart_kind h19).2.2.2.2.2.2.1] at h7; simp at h7
            | skip _ _ hn' _ => omega) st
  have hold : ∀ q, ¬ ((H i).n ≤ q ∧ q < (H i).n + nw.length) → (if (H i).n ≤ q ∧ q < (H i).n + nw.length then nw[q - (H i).n]? else (OB q).map (frzs [])) = OB q := fun q hq => by
    rw [if_neg hq]; cases OB q <;> rfl
  have hσ : ∀ q, K'.σ q ≠ none → K.σ q ≠ none ∨ ((H i).n ≤ q ∧ q < (H i).n + nw.length) := fun q hq => by
    cases hs : K'.σ q with
    | none => exact absurd hs hq
    | some s =>
      rcases st.dom q s hs with h1 | ⟨j, h1, h2⟩
      · exact .inl (by rw [h1]; simp)
      · exact .inr (by omega)
  have hσ2 : ∀ q, K.σ q ≠ none → K'.σ q ≠ none := fun q hq => by
    cases hs : K.σ q with
    | none => exact absurd hs hq
    | some s => rw [st.ext.σ q s hs]; simp
  -- what a place sees of the new names
  have hseen : ∀ p, Con ops D p → ∀ q, (H i).n ≤ q ∧ q < (H i).n + nw.length → q < (H p).n → obj (H p).o q = nw[q - (H i).n]? := fun p hp q hq hqp => by
    rcases Nat.lt_or_ge i p with h1 | h1
    · rw [H_old hH (show i + 1 ≤ p by omega) hp.le (fun k h2 h3 hk => hcon.hi k (by omega) hk (hp.lo k h3 hk)) (by omega), ho1, if_pos hq]
    · have := H_n hH h1 hcon.le; omega
  have hsz : ∀ q, q < ops.size → True := fun _ _ => trivial
  refine ⟨_, {
    good := h.good.step hobj st
    base := st.ext.base.trans h.base
    below := h.below.trans (st.below.mono (by rw [h.base]; exact Nat.le_refl _))
    Fin := fun b hb => st.ext.F b (h.Fin b hb)
    Fout := fun b hb => by
      rcases st.F b hb with h1 | ⟨h1, _⟩ | ⟨o, l, g, e, sh, h1, h2, h3⟩
      · exact h.Fout b h1
      · exact .inr (Nat.le_trans h.below.size h1)
      · simp at h2
    size := (put_size a o.dst val).trans h.size
    defers := by cases hdd : o.dst <;> simp [Act.put, h.defers]
    closed := closed_add h.closed he
    lt := fun k hk => by rcases hk with hk | rfl; exact h.lt k hk; exact hi
    tm := fun t => ?_
    oi := hoi
    see := fun p hp q y hy hs => ?_
    back := fun p hp q y hy hq => ?_
    wf := fun p hp => h.wf p (hp.of_add he.1 hw)
    dom := fun q hq => ?_
    has := fun p hp q y hy ho => ?_ }⟩
  · by_cases hdt : o.dst = some t
    · refine ⟨i + 1, hi, ?_, fun k hk hwk => ?_, fun k hk hwk hdk => ?_⟩
      · rw [hg1, if_pos hdt, hdt, getD_put a t val t (by rw [h.size]; exact hd t hdt), if_pos rfl]
        exact st.val
      · rcases Nat.lt_or_ge k i with h1 | h1
        · obtain ⟨z, hz, hzd⟩ := hwk
          rcases ord hok h.closed hz he h1 with h2 | h2
          · exact .inl h2
          · exact absurd hdt (disj_l h2.1 hzd).2
        · exact .inr (by omega)
      · rcases hdk with hdk | rfl
        · obtain ⟨z, hz, hzd⟩ := hwk
          rcases ord hok h.closed he.1 ⟨hz, fun e h6 h7 => h.closed k z hz hdk e h6 h7⟩ (by omega) with h2 | h2
          · exact hni h2
          · exact (disj_l h2.1 hdt).2 hzd
        · omega
    · obtain ⟨j, hj, h1, h2, h3⟩ := h.tm t
      refine ⟨j, hj, ?_, fun k hk hwk => .inl (h2 k hk hwk), fun k hk hwk hdk => ?_⟩
      · have : (a.put o.dst val).tmps.getD t undef = a.tmps.getD t undef := by
          cases hod : o.dst with
          | none => rfl
          | some d => rw [getD_put a d val t (by rw [h.size]; exact hd d hod), if_neg (by rintro rfl; exact hdt hod)]
        rw [this]
        exact RT.mono st.ext _ _ h1
      · rcases hdk with hdk | rfl
        · exact h3 k hk hwk hdk
        · obtain ⟨z, hz, hzd⟩ := hwk
          have := he.1; rw [hz] at this; obtain rfl := Option.some.inj this
          exact hdt hzd
  · have hp' := hp.of_add he.1 hw
    by_cases hq : (H i).n ≤ q ∧ q < (H i).n + nw.length
    · rw [if_pos hq, ← hseen p hp' q hq ((h.wf p hp').lt _ _ hy)]; exact hy
    · rw [hold q hq]
      rcases hσ q hs with h1 | h1
      · exact h.see p hp' q y hy h1
      · exact absurd h1 hq
  · have hp' := hp.of_add he.1 hw
    by_cases hqq : (H i).n ≤ q ∧ q < (H i).n + nw.length
    · rw [if_pos hqq] at hy; rw [hseen p hp' q hqq hq]; exact hy
    · rw [hold q hqq] at hy
      exact h.back p hp' q y hy hq
  · rcases hσ q hq with h1 | h1
    · rcases h.dom q h1 with h2 | ⟨k, h2, h3⟩
      · exact .inl h2
      · exact .inr ⟨k, .inl h2, h3⟩
    · exact .inr ⟨i, .inr rfl, h1.1, by omega⟩
  · rcases ho with ho | ⟨k, hk | rfl, h1, h2⟩
    · exact hσ2 q (h.has p (hp.of_add he.1 hw) q y hy (.inl ho))
    · exact hσ2 q (h.has p (hp.of_add he.1 hw) q y hy (.inr ⟨k, hk, h1, h2⟩))
    · have hlt : q - (H k).n < nw.length := by omega
      obtain ⟨s, hs, _⟩ := st.new (q - (H k).n) _ (List.getElem?_eq_getElem hlt)
      rw [show (H k).n + (q - (H k).n) = q by omega] at hs
      rw [hs]; simp
/-- One operation that makes nothing, told by a store that agrees with what was executed. -/
theorem RInv.stepS (hok : okDraw nd ops = true) (hH : ∀ i o, ops[i]? = some o → Eff E cl ops (H i) o (H (i + 1))) (h : RInv m w0 F0 ops H K D OB a) {i : Nat} {o : Oper} (he : Enab ops D i o) (hni : ¬ D i) (hd : ∀ t, o.dst = some t → t < m) (hpo : soft o.op = true)
    {n0 : Nat} {ob : Nat → Option Ob} (hsee : ∀ q y s, ob q = some y → K.σ q = some s → OB q = some y) {x : T} {K' : Ctx} {val : Value} (st : Step K n0 ob x [] [] K' val) (hg1 : ∀ t, get (H (i + 1)).t t = if o.dst = some t then x else get (H i).t t) :
    RInv m w0 F0 ops H K' (fun k => D k ∨ k = i) OB (a.put o.dst val) := by
  have hi := en_le he
  have hw := soft_w hpo
  have hn1 : (H (i + 1)).n = (H i).n := eff_nP (hH i o he.1) hpo
  have hobj : ∀ q y s, ob q = some y → K.σ q = some s → RO K s y := fun q y s h1 h2 => h.oi.objs q y s (hsee q y s h1 h2) h2
  have hoi := OInv.step (fz := []) (nw := []) h.good h.oi hsee (fun hf => absurd rfl hf) (fun j hj => by simp at hj) (fun y hy => by simp at hy) (fun p l l' g gen h1 => by simp at h1) st
  have hOB : (fun o => if n0 ≤ o ∧ o < n0 + ([] : List Ob).length then ([] : List Ob)[o - n0]? else (OB o).map (frzs [])) = OB := funext fun q => by
    rw [if_neg (by rintro ⟨h1, h2⟩; simp at h2; omega)]
    cases OB q <;> rfl
  have hσ : ∀ q, K'.σ q ≠ none → K.σ q ≠ none := fun q hq => by
    cases hs : K'.σ q with
    | none => exact absurd hs hq
    | some s =>
      rcases st.dom q s hs with h1 | ⟨j, h1, h2⟩
      · rw [h1]; simp
      · simp at h1
  have hσ2 : ∀ q, K.σ q ≠ none → K'.σ q ≠ none := fun q hq => by
    cases hs : K.σ q with
    | none => exact absurd hs hq
    | some s => rw [st.ext.σ q s hs]; simp
  refine {
    good := h.good.step hobj st
    base := st.ext.base.trans h.base
    below := h.below.trans (st.below.mono (by rw [h.base]; exact Nat.le_refl _))
    Fin := fun b hb => st.ext.F b (h.Fin b hb)
    Fout := fun b hb => by
      rcases st.F b hb with h1 | ⟨h1, _⟩ | ⟨o, l, g, e, sh, h1, h2, h3⟩
      · exact h.Fout b h1
      · exact .inr (Nat.le_trans h.below.size h1)
      · simp at h2
    size := (put_size a o.dst val).trans h.size
    defers := by cases hdd : o.dst <;> simp [Act.put, h.defers]
    closed := closed_add h.closed he
    lt := fun k hk => by rcases hk with hk | rfl; exact h.lt k hk; exact hi
    tm := fun t => ?_
    oi := hOB ▸ hoi
    see := fun p hp q y hy hs => h.see p (hp.of_add he.1 hw) q y hy (hσ q hs)
    back := fun p hp q y hy hq => h.back p (hp.of_add he.1 hw) q y hy hq
    wf := fun p hp => h.wf p (hp.of_add he.1 hw)
    dom := fun q hq => by
      rcases h.dom q (hσ q hq) with h2 | ⟨k, h2, h3⟩
      · exact .inl h2
      · exact .inr ⟨k, .inl h2, h3⟩
    has := fun p hp q y hy ho => by
      rcases ho with ho | ⟨k, hk | rfl, h1, h2⟩
      · exact hσ2 q (h.has p (hp.of_add he.1 hw) q y hy (.inl ho))
      · exact hσ2 q (h.has p (hp.of_add he.1 hw) q y hy (.inr ⟨k, hk, h1, h2⟩))
      · omega }
  by_cases hdt : o.dst = some t
  · refine ⟨i + 1, hi, ?_, fun k hk hwk => ?_, fun k hk hwk hdk => ?_⟩
    · rw [hg1, if_pos hdt, hdt, getD_put a t val t (by rw [h.size]; exact hd t hdt), if_pos rfl]
      exact st.val
    · rcases Nat.lt_or_ge k i with h1 | h1
      · obtain ⟨z, hz, hzd⟩ := hwk
        rcases ord hok h.closed hz he h1 with h2 | h2
        · exact .inl h2
        · exact absurd hdt (disj_l h2.1 hzd).2
      · exact .inr (by omega)
    · rcases hdk with hdk | rfl
      · obtain ⟨z, hz, hzd⟩ := hwk
        rcases ord hok h.closed he.1 ⟨hz, fun e h6 h7 => h.closed k z hz hdk e h6 h7⟩ (by omega) with h2 | h2
        · exact hni h2
        · exact (disj_l h2.1 hdt).2 hzd
      · omega
  · obtain ⟨j, hj, h1, h2, h3⟩ := h.tm t
    refine ⟨j, hj, ?_, fun k hk hwk => .inl (h2 k hk hwk), fun k hk hwk hdk => ?_⟩
    · have : (a.put o.dst val).tmps.getD t undef = a.tmps.getD t undef := by
        cases hod : o.dst with
        | none => rfl
        | some d => rw [getD_put a d val t (by rw [h.size]; exact hd d hod), if_neg (by rintro rfl; exact hdt hod)]
      rw [this]
      exact RT.mono st.ext _ _ h1
    · rcases hdk with hdk | rfl
      · exact h3 k hk hwk hdk
      · obtain ⟨z, hz, hzd⟩ := hwk
        have := he.1; rw [hz] at this; obtain rfl := Option.some.inj this
        exact hdt hzd
theorem get_bound : ∀ (l : List (Nat × T)), ∃ N, ∀ t, N ≤ t → get l t = .junk
  | [] => ⟨0, fun _ _ => rfl⟩
  | (k, x) :: r => by
    obtain ⟨N, h⟩ := get_bound r
    exact ⟨max N (k + 1), fun t ht => by rw [get, if_neg (by omega)]; exact h t (by omega)⟩
theorem H_bound (H : Nat → St) : ∀ p, ∃ N, ∀ q, q ≤ p → ∀ t, N ≤ t → get (H q).t t = .junk
  | 0 => by
    obtain ⟨N, h⟩ := get_bound (H 0).t
    exact ⟨N, fun q hq t ht => by obtain rfl : q = 0 := by omega
                                  exact h t ht⟩
  | p + 1 => by
    obtain ⟨N, h⟩ := H_bound H p
    obtain ⟨M, h'⟩ := get_bound (H (p + 1)).t
    refine ⟨max N M, fun q hq t ht => ?_⟩
    rcases Nat.lt_or_ge q (p + 1) with h1 | h1
    · exact h q (by omega) t (by omega)
    · obtain rfl : q = p + 1 := by omega
      exact h' t (by omega)
theorem getm_map (f : Nat → T) : ∀ (l : List Nat) (t : Nat), t ∈ l → get (l.map fun t => (t, f t)) t = f t
  | [], t, h => by simp at h
  | k :: l, t, h => by
    simp only [List.map_cons, get]
    by_cases e : k = t
    · rw [if_pos e, e]
    · rw [if_neg e]
      exact getm_map f l t (by simpa [Ne.symm e] using h)
theorem get_map_none (f : Nat → T) : ∀ (l : List Nat) (t : Nat), t ∉ l → get (l.map fun t => (t, f t)) t = .junk
  | [], t, h => rfl
  | k :: l, t, h => by
    simp only [List.map_cons, get]
    simp only [List.mem_cons, not_or] at h
    rw [if_neg (Ne.symm h.1)]
    exact get_map_none f l t h.2
theorem toCs_t (S : St) (t : List (Nat × T)) (l : List T) : toCs ⟨t, S.o, S.n⟩ l = toCs S l := by
  induction l with
  | nil => rfl
  | cons x l ih => simp only [toCs, ih]; cases x <;> rfl
theorem opW_congr {S S' : St} {o : Oper} (hz : ∀ z ∈ o.op.operands, S'.ev z = S.ev z) (ho : S'.o = S.o) (hn : S'.n = S.n) {os : List (Nat × Ob)} (h : opW E S o = some os) : opW E S' o = some os := by
  obtain ⟨t', o', n'⟩ := S'
  simp only at ho hn
  subst ho hn
  obtain ⟨d, op, ty, pos, af, gg⟩ := o
  cases op <;> simp only [opW] at h ⊢ <;> simp only [Op.operands] at hz <;> first | (simp at h; done) | skip
  · rw [hz _ (by simp), hz _ (by simp)]
    rw [← h]
    unfold storeT
    simp only [toCs_t]
  · rw [hz _ (by simp), hz _ (by simp), hz _ (by simp)]
    rw [← h]
    rfl
/-- One operation that writes. -/
theorem RInv.stepW (hok : okDraw nd ops = true) (hH : ∀ i o, ops[i]? = some o → Eff E cl ops (H i) o (H (i + 1))) (h : RInv m w0 F0 ops H K D OB a) {i : Nat} {o : Oper} (he : Enab ops D i o) (hni : ¬ D i) (hw : isW o.op = true) :
    ∃ S' : St, (∀ t ∈ o.looksAt ops, get S'.t t = get (H i).t t) ∧ S'.o = (H i).o ∧ S'.n = (H i).n ∧ Inv m w0 F0 K S' a ∧
      ∀ {K' : Ctx} {a' : Act} {S1 : St}, Inv m w0 F0 K' S1 a' → (∀ t, get S1.t t = if o.dst = some t then get (H (i + 1)).t t else get S'.t t) → (∀ q, obj S1.o q = obj (H (i + 1)).o q) → S1.n = (H (i + 1)).n →
        RInv m w0 F0 ops H K' (fun k => D k ∨ k = i) (obj (H (i + 1)).o) a' := by
  have hp : soft o.op = false := by
    cases hq : soft o.op with
    | false => rfl
    | true => rw [soft_w hq] at hw; simp at hw
  have hcon := con_ready hok h.closed he hni hp
  have hi := en_le he
  have hNP : ∀ k x, ops[k]? = some x → soft x.op = false → (D k ↔ k < i) := fun k x hk hxp => by
    constructor
    · intro hdk
      rcases Nat.lt_trichotomy k i with h1 | rfl | h1
      · exact h1
      · exact absurd hdk hni
      · rcases ord hok h.closed he.1 ⟨hk, fun e h6 h7 => h.closed k x hk hdk e h6 h7⟩ h1 with h2 | h2
        · exact absurd h2 hni
        · exact (free_w h2.2 hxp hw).elim
    · intro hlt
      rcases ord hok h.closed hk he hlt with h2 | h2
      · exact h2
      · exact (free_w' h2.2 hxp hw).elim
  have hmk : ∀ k, k < ops.size → ∀ q, (H k).n ≤ q → q < (H (k + 1)).n → (D k ↔ k < i) := fun k hk q h1 h2 => by
    have hk' : ops[k]? = some ops[k] := Array.getElem?_eq_getElem hk
    refine hNP k _ hk' ?_
    cases hq : soft ops[k].op with
    | false => rfl
    | true => have := eff_nP (hH k _ hk') hq; omega
  have hmade : ∀ q, K.σ q ≠ none → q < (H i).n := fun q hq => by
    rcases h.dom q hq with h1 | ⟨k, h1, h2, h3⟩
    · exact Nat.lt_of_lt_of_le h1 (H_n hH (Nat.zero_le i) hcon.le)
    · have hk := h.lt k h1
      have := (hmk k hk q h2 h3).1 h1
      exact Nat.lt_of_lt_of_le h3 (H_n hH this hcon.le)
  have hwf := h.wf i hcon
  have hOB : OB = obj (H i).o := by
    funext q
    cases ho : obj (H i).o q with
    | some x =>
      refine h.see i hcon q x ho ?_
      have hlt := hwf.lt _ _ ho
      refine h.has i hcon q x ho ?_
      rcases Nat.lt_or_ge q (H 0).n with h1 | h1
      · exact .inl h1
      · obtain ⟨k, h2, h3, h4⟩ := H_made hH hcon.le h1 hlt
        exact .inr ⟨k, (hmk k (by omega) q h3 h4).2 h2, h3, h4⟩
    | none =>
      cases hb : OB q with
      | none => rfl
      | some x =>
        have := h.back i hcon q x hb (hmade q (h.oi.dom q x hb))
        rw [ho] at this; simp at this
  let jt : Nat → Nat := fun t => Classical.choose (h.tm t)
  have hjt : ∀ t, jt t ≤ ops.size ∧ RT K (get (H (jt t)).t t) (a.tmps.getD t undef) ∧ (∀ i, i < jt t → Wr ops i t → D i) ∧ (∀ i, jt t ≤ i → Wr ops i t → ¬ D i) := fun t => Classical.choose_spec (h.tm t)
  obtain ⟨N, hN⟩ := H_bound H ops.size
  have hget : ∀ t, get ((List.range N).map fun t => (t, get (H (jt t)).t t)) t = get (H (jt t)).t t := fun t => by
    by_cases ht : t < N
    · exact getm_map _ _ t (List.mem_range.2 ht)
    · rw [get_map_none _ _ t (by simpa using ht)]
      exact (hN _ (hjt t).1 t (by omega)).symm
  refine ⟨⟨(List.range N).map fun t => (t, get (H (jt t)).t t), (H i).o, (H i).n⟩, fun t ht => ?_, rfl, rfl, ?_, fun {K' a' S1} hi' ht' ho' hn' => ?_⟩
  · rw [hget]
    exact (looks_eq hok hH h.closed he hni ht (hjt t).1 (hjt t).2.2.1 (hjt t).2.2.2).symm
  · exact {
      good := h.good, base := h.base, below := h.below, Fin := h.Fin, Fout := h.Fout, size := h.size, defers := h.defers
      tm := fun t => by
        show RT K (get ((List.range N).map fun t => (t, get (H (jt t)).t t)) t) _
        rw [hget]; exact (hjt t).2.1
      oi := hOB ▸ h.oi
      fresh := fun q hq => by
        cases hs : K.σ q with
        | none => rfl
        | some s =>
          have := hmade q (by rw [hs]; simp)
          have hq' : (H i).n ≤ q := hq
          omega
      grp := hwf.grp }
  · have hOB' : obj S1.o = obj (H (i + 1)).o := funext ho'
    have hlt1 : ∀ q, K'.σ q ≠ none → q < (H (i + 1)).n := fun q hq => by
      rcases Nat.lt_or_ge q (H (i + 1)).n with h1 | h1
      · exact h1
      · exact absurd (hi'.fresh q (by omega)) hq
    have after : ∀ {p}, Con ops (fun k => D k ∨ k = i) p → i + 1 ≤ p := fun {p} hc => by
      rcases Nat.lt_or_ge i p with h1 | h1
      · exact h1
      · exact absurd (.inr rfl) (hc.hi i h1 ⟨o, he.1, hw⟩)
    have noW : ∀ {p}, Con ops (fun k => D k ∨ k = i) p → ∀ k, i + 1 ≤ k → k < p → ¬ Wat ops k := fun {p} hc k h1 h2 hk => by
      obtain ⟨x, hx, hxw⟩ := id hk
      rcases hc.lo k h2 hk with h3 | h3
      · have := (hNP k x hx (by
          cases hq : soft x.op with
          | false => rfl
          | true => rw [soft_w hq] at hxw; simp at hxw)).1 h3
        omega
      · omega
    have hold : ∀ {p}, Con ops (fun k => D k ∨ k = i) p → ∀ q, q < (H (i + 1)).n → obj (H p).o q = obj (H (i + 1)).o q := fun hc q hq => H_old hH (after hc) hc.le (noW hc) hq
    exact {
      good := hi'.good, base := hi'.base, below := hi'.below, Fin := hi'.Fin, Fout := hi'.Fout, size := hi'.size, defers := hi'.defers
      closed := closed_add h.closed he
      lt := fun k hk => by rcases hk with hk | rfl; exact h.lt k hk; exact hi
      tm := fun t => by
        have ht1 := hi'.tm t
        rw [ht'] at ht1
        by_cases hdt : o.dst = some t
        · rw [if_pos hdt] at ht1
          refine ⟨i + 1, hi, ht1, fun k hk hwk => ?_, fun k hk hwk hdk => ?_⟩
          · rcases Nat.lt_or_ge k i with h1 | h1
            · obtain ⟨z, hz, hzd⟩ := hwk
              rcases ord hok h.closed hz he h1 with h2 | h2
              · exact .inl h2
              · exact absurd hdt (disj_l h2.1 hzd).2
            · exact .inr (by omega)
          · rcases hdk with hdk | rfl
            · obtain ⟨z, hz, hzd⟩ := hwk
              rcases ord hok h.closed he.1 ⟨hz, fun e h6 h7 => h.closed k z hz hdk e h6 h7⟩ (by omega) with h2 | h2
              · exact hni h2
              · exact (disj_l h2.1 hdt).2 hzd
            · omega
        · rw [if_neg hdt] at ht1
          have ht2 : RT K' (get (H (jt t)).t t) (a'.tmps.getD t undef) := by rw [← hget]; exact ht1
          refine ⟨jt t, (hjt t).1, ht2, fun k hk hwk => .inl ((hjt t).2.2.1 k hk hwk), fun k hk hwk hdk => ?_⟩
          rcases hdk with hdk | rfl
          · exact (hjt t).2.2.2 k hk hwk hdk
          · obtain ⟨z, hz, hzd⟩ := hwk
            have := he.1; rw [hz] at this; obtain rfl := Option.some.inj this
            exact hdt hzd
      oi := hOB' ▸ hi'.oi
      see := fun p hc q y hy hs => by rw [← hold hc q (hlt1 q hs)]; exact hy
      back := fun p hc q y hy _ => by rw [hold hc q (hlt1 q (hi'.oi.dom q y (by rw [hOB']; exact hy)))]; exact hy
      wf := fun p hc => H_wf hH (after hc) hc.le (noW hc) ⟨fun q x hx => hlt1 q (hi'.oi.dom q x (by rw [hOB']; exact hx)), fun q l g e hx => by rw [← hn']; exact hi'.grp q l g e (by rw [ho']; exact hx)⟩
      dom := fun q hq => by
        have hlt := hlt1 q hq
        rcases Nat.lt_or_ge q (H 0).n with h1 | h1
        · exact .inl h1
        · obtain ⟨k, h2, h3, h4⟩ := H_made hH hi h1 hlt
          rcases Nat.lt_or_ge k i with h5 | h5
          · exact .inr ⟨k, .inl ((hmk k (by omega) q h3 h4).2 h5), h3, h4⟩
          · exact .inr ⟨k, .inr (by omega), h3, h4⟩
      has := fun p hc q y hy ho => by
        have hlt : q < (H (i + 1)).n := by
          rcases ho with h1 | ⟨k, hk | rfl, h2, h3⟩
          · exact Nat.lt_of_lt_of_le h1 (H_n hH (Nat.zero_le _) hi)
          · have := (hmk k (h.lt k hk) q h2 h3).1 hk
            exact Nat.lt_of_lt_of_le h3 (H_n hH (show k + 1 ≤ i + 1 by omega) hi)
          · exact h3
        rw [hold hc q hlt] at hy
        exact hi'.oi.dom q y (by rw [hOB']; exact hy) }
/-- A draw leaves what is known. -/
theorem Inv.drew {S : St} (h : Inv m w0 F0 K S a) : Inv m w0 F0 { K with w := { K.w with drawn := K.w.drawn + 1 } } S a := by
  have st : Step K S.n (obj S.o) .und [] [] { K with w := { K.w with drawn := K.w.drawn + 1 } } undef := {
    ext := ⟨rfl, fun _ h => h, fun _ _ h => h, fun _ _ => rfl, fun _ cs e fr h => ⟨cs, e, fr, h, rfl⟩⟩
    below := ⟨rfl, rfl, rfl, Nat.le_refl _, fun _ _ => rfl⟩
    val := by simp only [RT]
    new := fun i y h => by simp at h
    dom := fun o s h => .inl h
    F := fun b h => .inl h
    frz := fun o l g e b sh _ h => by simp at h
    place := fun i b sh h => by simp at h
    apart := fun i j b sh sh' h => by simp at h
    kept := .inl fun _ _ => rfl }
  have hoi := OInv.step (fz := []) (nw := []) h.good h.oi (fun o y s h1 _ => h1) (fun _ o y h => h) (fun i hi => by simp at hi) (fun y hy => by simp at hy) (fun p l l' g gen h1 => by simp at h1) st
  exact { h with
    good := h.good.step h.oi.objs st
    below := h.below.trans (st.below.mono (by rw [h.base]; exact Nat.le_refl _))
    tm := fun t => RT.mono st.ext _ _ (h.tm t)
    oi := by
      refine cast (congrArg (OInv _) (funext fun o => ?_)) hoi
      rw [if_neg (by rintro ⟨h1, h2⟩; simp at h2; omega)]
      cases obj S.o o <;> rfl }
theorem wanted_run {S : St} {o : Oper} (hlook : ∀ t ∈ o.looksAt ops, RT K (get S.t t) (a.tmps.getD t undef)) (hw : match o.guard with | none => True | some (g, want) => ∃ d, gtmp ops g = some d ∧ get S.t d = B want) : Region.wanted o (yielded ops a.tmps) = true := by
  cases hg : o.guard with
  | none => simp [Region.wanted, hg]
  | some gw =>
    obtain ⟨g, want⟩ := gw
    rw [hg] at hw
    obtain ⟨d, h1, h2⟩ := hw
    have hv := hlook d (by simp [Oper.looksAt, hg]; right; unfold gtmp at h1; rw [h1])
    rw [h2] at hv
    have hy := yielded_bool (ops := ops) h1 (RT_v hv)
    simp [Region.wanted, hg, hy]
theorem wanted_skip {S : St} {o : Oper} (hlook : ∀ t ∈ o.looksAt ops, RT K (get S.t t) (a.tmps.getD t undef)) (hw : ∃ g want d, o.guard = some (g, want) ∧ gtmp ops g = some d ∧ (get S.t d = .und ∨ get S.t d = B (!want))) : Region.wanted o (yielded ops a.tmps) = false := by
  obtain ⟨g, want, d, hg, h1, h2⟩ := hw
  have hv := hlook d (by simp [Oper.looksAt, hg]; right; unfold gtmp at h1; rw [h1])
  rcases h2 with h2 | h2
  · rw [h2] at hv
    simp only [RT] at hv
    have hy := yielded_und (ops := ops) h1 hv
    simp [Region.wanted, hg, hy]
  · rw [h2] at hv
    have hy := yielded_bool (ops := ops) h1 (RT_v hv)
    simp [Region.wanted, hg, hy]
theorem H_wfAll (hH : ∀ i o, ops[i]? = some o → Eff E cl ops (H i) o (H (i + 1))) (h0 : Wf (H 0)) : ∀ p, p ≤ ops.size → Wf (H p)
  | 0, _ => h0
  | p + 1, hp => eff_wfAll (hH p ops[p] (Array.getElem?_eq_getElem (by omega))) (H_wfAll hH h0 p (by omega))
theorem box_back (hH : ∀ i o, ops[i]? = some o → Eff E cl ops (H i) o (H (i + 1))) {u v q : Nat} (huv : u ≤ v) (hv : v ≤ ops.size) (hq : q < (H u).n) {l : List T} (hb : obj (H v).o q = some (.box l)) : ∃ l', obj (H u).o q = some (.box l') := by
  induction v generalizing l with
  | zero => obtain rfl : u = 0 := by omega
            exact ⟨l, hb⟩
  | succ v ih =>
    rcases Nat.lt_or_ge u (v + 1) with h | h
    · obtain ⟨l', hl⟩ := eff_box (hH v ops[v] (Array.getElem?_eq_getElem (by omega))) (Nat.lt_of_lt_of_le hq (H_n hH (by omega) (by omega))) hb
      exact ih (by omega) (by omega) hl
    · obtain rfl : u = v + 1 := by omega
      exact ⟨l, hb⟩
/-- A store that goes by a box. -/
theorem apart_step (hH : ∀ i o, ops[i]? = some o → Eff E cl ops (H i) o (H (i + 1))) (h0 : Wf (H 0)) (hchk : chk nd (H ops.size) = true) {i k : Nat} {o x : Oper} {ty : TypeId} {q b off : Nat} (hop : o.op = .load ty (.tmp q)) (hq : get (H i).t q = .pt b off) (hi : i ≤ ops.size)
    (hk : ops[k]? = some x) (hap : apartOk nd ops k x i o = true) : obj (H (k + 1)).o b = obj (H k).o b := by
  obtain ⟨ty1, p, v, ty2, q2, e1, e2, hd, hm, st1, st2⟩ := apart_inv hap
  rw [hop] at e2
  simp only [Op.load.injEq, Operand.tmp.injEq] at e2
  obtain ⟨rfl, rfl⟩ := e2
  have hks : k < ops.size := by
    rcases Nat.lt_or_ge k ops.size with h | h
    · exact h
    · simp [Array.getElem?_eq_none h] at hk
  have g1 : get (H ops.size).t p = get (H k).t p := H_get hH (Nat.le_of_lt hks) (Nat.le_refl _) fun j h1 _ ⟨z, hz, hzd⟩ => st1 j z h1 hz hzd
  have g2 : get (H ops.size).t q = get (H i).t q := H_get hH hi (Nat.le_refl _) fun j h1 _ ⟨z, hz, hzd⟩ => st2 j z h1 hz hzd
  have hc := List.all_eq_true.1 hchk (p, q) hm
  simp only at hc
  rw [g2, hq] at hc
  unfold ptNe at hc
  split at hc
  · rename_i a _ b' _ ea eb
    obtain ⟨rfl, rfl⟩ := T.pt.inj eb
    simp only [Bool.and_eq_true, bne_iff_ne] at hc
    have hab := hc.1.1
    obtain ⟨l, hl⟩ : ∃ l, obj (H ops.size).o a = some (.box l) := by
      have := hc.1.2
      unfold boxed at this
      split at this
      · rename_i l hl; exact ⟨l, hl⟩
      · simp at this
    rw [g1] at ea
    cases hH k x hk with
    | skip hg ho hn hw => rw [ho]
    | run Sg hg ho hn hw h =>
      rcases opA_inv h with ⟨_, os, hW, hS⟩ | ⟨hW, _⟩
      · rw [hS, putO_o]
        show obj os b = _
        rcases opW_inv hW with ⟨p', x', y', h1, rfl, _, _, hpl⟩ | ⟨p', l1, g, e, l2, h1, rfl, hpl⟩
        · obtain ⟨off', hoff⟩ := hpl _ _ _ e1
          rw [hg, ea] at hoff
          obtain ⟨rfl, _⟩ := T.pt.inj hoff
          rw [obj_setO, if_neg (Ne.symm hab), ho]
        · obtain ⟨off', hoff⟩ := hpl _ _ _ e1
          rw [hg, ea] at hoff
          obtain ⟨rfl, _⟩ := T.pt.inj hoff
          rw [ho] at h1
          obtain ⟨l', hl'⟩ := box_back hH (Nat.le_of_lt hks) (Nat.le_refl _) ((H_wfAll hH h0 k (Nat.le_of_lt hks)).lt _ _ h1) hl
          rw [h1] at hl'; simp at hl'
      · rw [e1] at hW; simp [isW] at hW
  · simp at hc
theorem H_touch (hH : ∀ i o, ops[i]? = some o → Eff E cl ops (H i) o (H (i + 1))) {b : Nat} {u v : Nat} (huv : u ≤ v) (hv : v ≤ ops.size) (hb : b < (H u).n) (hw : ∀ k, u ≤ k → k < v → Wat ops k → obj (H (k + 1)).o b = obj (H k).o b) : obj (H v).o b = obj (H u).o b := by
  induction v with
  | zero => obtain rfl : u = 0 := by omega
            rfl
  | succ v ih =>
    rcases Nat.lt_or_ge u (v + 1) with h | h
    · have hv' : ops[v]? = some ops[v] := Array.getElem?_eq_getElem (by omega)
      have e : obj (H (v + 1)).o b = obj (H v).o b := by
        cases hb' : isW ops[v].op with
        | false => exact eff_old (hH v _ hv') hb' b (Nat.lt_of_lt_of_le hb (H_n hH (by omega) (by omega)))
        | true => exact hw v (by omega) (by omega) ⟨_, hv', hb'⟩
      rw [e]
      exact ih (by omega) (by omega) fun k h1 h2 => hw k h1 (by omega)
    · obtain rfl : u = v + 1 := by omega
      rfl
theorem first_w (D : Nat → Prop) : ∀ n, ∃ p, p ≤ n ∧ (∀ k, k < p → Wat ops k → D k) ∧ (p = n ∨ (Wat ops p ∧ ¬ D p))
  | 0 => ⟨0, Nat.le_refl 0, fun k h => by omega, .inl rfl⟩
  | n + 1 => by
    obtain ⟨p, h1, h2, h3⟩ := first_w D n
    rcases h3 with rfl | h3
    · rcases Classical.em (Wat ops p ∧ ¬ D p) with h4 | h4
      · exact ⟨p, by omega, h2, .inr h4⟩
      · refine ⟨p + 1, by omega, fun k hk hw => ?_, .inl rfl⟩
        rcases Nat.lt_or_ge k p with h5 | h5
        · exact h2 k h5 hw
        · obtain rfl : k = p := by omega
          exact Classical.byContradiction fun hn => h4 ⟨hw, hn⟩
    · exact ⟨p, by omega, h2, .inr h3⟩
/-- A place that agrees with what was executed, at which a box stands as a ready load finds it. -/
theorem RInv.frontier (hok : okDraw nd ops = true) (hH : ∀ i o, ops[i]? = some o → Eff E cl ops (H i) o (H (i + 1))) (h : RInv m w0 F0 ops H K D OB a) (h0 : Wf (H 0)) (hchk : chk nd (H ops.size) = true) {i : Nat} {o : Oper} (he : Enab ops D i o) (hni : ¬ D i)
    {ty : TypeId} {q b off : Nat} (hop : o.op = .load ty (.tmp q)) (hq : get (H i).t q = .pt b off) (hb : obj (H i).o b ≠ none) : ∃ p, Con ops D p ∧ obj (H p).o b = obj (H i).o b := by
  have hi := en_le he
  obtain ⟨p, hp, hlo, hhi⟩ := first_w (ops := ops) D ops.size
  have hcon : Con ops D p := ⟨hp, hlo, fun k hk ⟨y, hy, hw⟩ hd => by
    have hks := h.lt k hd
    rcases hhi with rfl | ⟨⟨z, hz, hzw⟩, hnd⟩
    · omega
    · rcases Nat.lt_or_ge p k with h1 | h1
      · rcases ord hok h.closed hz ⟨hy, fun e h6 h7 => h.closed k y hy hd e h6 h7⟩ h1 with h2 | h2
        · exact hnd h2
        · refine free_w h2.2 ?_ hzw
          cases hs : soft y.op with
          | false => rfl
          | true => rw [soft_w hs] at hw; simp at hw
      · obtain rfl : k = p := by omega
        exact hnd hd⟩
  have hlook := h.looks hok hH he hni (t := q) (by
    simp only [Oper.looksAt, List.mem_append, List.mem_filterMap]
    exact .inl ⟨.tmp q, by rw [hop]; simp [Op.operands], rfl⟩)
  rw [hq] at hlook
  have hσ : K.σ b ≠ none := by
    simp only [RT] at hlook
    obtain ⟨b', sh, h1, _⟩ := hlook
    rw [h1]; simp
  have hbp : b < (H p).n := by
    rcases h.dom b hσ with h1 | ⟨k, h1, h2, h3⟩
    · exact Nat.lt_of_lt_of_le h1 (H_n hH (Nat.zero_le _) hp)
    · have hks := h.lt k h1
      have hk' : ops[k]? = some ops[k] := Array.getElem?_eq_getElem hks
      rcases Nat.lt_or_ge k p with h4 | h4
      · exact Nat.lt_of_lt_of_le h3 (H_n hH h4 hp)
      · exfalso
        have hks2 : soft ops[k].op = false := by
          cases hs : soft ops[k].op with
          | false => rfl
          | true => have := eff_nP (hH k _ hk') hs; omega
        rcases hhi with rfl | ⟨⟨z, hz, hzw⟩, hnd⟩
        · omega
        · rcases Nat.lt_or_ge p k with h5 | h5
          · rcases ord hok h.closed hz ⟨hk', fun e h6 h7 => h.closed k _ hk' h1 e h6 h7⟩ h5 with h6 | h6
            · exact hnd h6
            · exact free_w h6.2 hks2 hzw
          · obtain rfl : k = p := by omega
            exact hnd h1
  have hbi : b < (H i).n := by
    cases hx : obj (H i).o b with
    | none => exact absurd hx hb
    | some z => exact (H_wfAll hH h0 i (Nat.le_of_lt hi)).lt _ _ hx
  have hst : ∀ k, ((p ≤ k ∧ k < i) ∨ (i ≤ k ∧ k < p)) → Wat ops k → obj (H (k + 1)).o b = obj (H k).o b := fun k hk ⟨x, hx, hw⟩ => by
    refine apart_step hH h0 hchk hop hq (Nat.le_of_lt hi) hx ?_
    have hol : isP o.op = false ∧ isW o.op = false := by rw [hop]; exact ⟨rfl, rfl⟩
    have hxs : isP x.op = false := by
      cases hs : isP x.op with
      | false => rfl
      | true => rw [isP_w hs] at hw; simp at hw
    rcases hk with ⟨k1, k2⟩ | ⟨k1, k2⟩
    · rcases ord hok h.closed hx he k2 with h1 | h1
      · exact absurd h1 (hcon.hi k k1 ⟨x, hx, hw⟩)
      · rcases h1.2 with h2 | h2 | h2 | h2 | h2
        · rw [h2.1] at hw; simp at hw
        · rw [hxs] at h2; simp at h2
        · rw [hol.1] at h2; simp at h2
        · exact h2
        · rw [(apart_kind h2).2.2.2.2.2.1] at hw; simp at hw
    · have hki : i < k := by
        rcases Nat.lt_or_ge i k with h1 | h1
        · exact h1
        · obtain rfl : i = k := by omega
          have := he.1; rw [hx] at this; obtain rfl := Option.some.inj this
          rw [hol.2] at hw; simp at hw
      have hdk := hcon.lo k k2 ⟨x, hx, hw⟩
      rcases ord hok h.closed he.1 ⟨hx, fun e h6 h7 => h.closed k x hx hdk e h6 h7⟩ hki with h1 | h1
      · exact absurd h1 hni
      · rcases h1.2 with h2 | h2 | h2 | h2 | h2
        · rw [h2.2.1] at hw; simp at hw
        · rw [hol.1] at h2; simp at h2
        · rw [hol.2] at h2; simp at h2
        · rw [(apart_kind h2).2.2.2.2.2.1] at hw; simp at hw
        · exact h2
  refine ⟨p, hcon, ?_⟩
  rcases Nat.le_total p i with h1 | h1
  · exact (H_touch hH h1 (Nat.le_of_lt hi) hbp fun k k1 k2 hk => hst k (.inl ⟨k1, k2⟩) hk).symm
  · exact H_touch hH h1 hp hbi fun k k1 k2 hk => hst k (.inr ⟨k1, k2⟩) hk
theorem any_sound (hok : okDraw nd ops = true) (hH : ∀ i o, ops[i]? = some o → Eff E cl ops (H i) o (H (i + 1))) (hwf0 : Wf (H 0)) (hchk : chk nd (H ops.size) = true) (hcl : CallOK E.P cl) (hd : ∀ (i : Nat) (o : Oper), ops[i]? = some o → ∀ t, o.dst = some t → t < m) {Q : Exit → Act → World → Prop} (hq : ∀ K' a', Inv m w0 F0 K' (H ops.size) a' → Q .normal a' K'.w) :
    ∀ (fuel : Nat) (listed : Array Bool) {K : Ctx} {D : Nat → Prop} {OB : Nat → Option Ob} {a : Act}, RInv m w0 F0 ops H K D OB a → listed.size = ops.size → (∀ k, listed[k]? = some true ↔ D k) → ((List.range ops.size).filter (fun k => !listed.getD k true)).length ≤ fuel → wpAny E.P .any ops Q fuel listed a K.w := by
  intro fuel
  have getT : ∀ {listed : Array Bool} {k : Nat} (d : Bool), k < listed.size → (listed.getD k d = true ↔ listed[k]? = some true) := fun d hk => by
    rw [Array.getD_eq_getD_getElem?, Array.getElem?_eq_getElem hk]; simp
  have done : ∀ {listed : Array Bool} {K : Ctx} {D : Nat → Prop} {OB : Nat → Option Ob} {a : Act}, RInv m w0 F0 ops H K D OB a → listed.size = ops.size → (∀ k, listed[k]? = some true ↔ D k) → Region.ready .any ops listed = [] → Q .normal a K.w := by
    intro listed K D OB a h hs hl hr
    have all : ∀ k, k < ops.size → D k := by
      intro k
      induction k using Nat.strongRecOn with
      | _ k ih =>
        intro hk
        have hk' : ops[k]? = some ops[k] := Array.getElem?_eq_getElem hk
        rcases Classical.em (D k) with hd | hd
        · exact hd
        · exfalso
          have : k ∈ Region.ready .any ops listed := by
            simp only [Region.ready, List.mem_filter, List.mem_range, Bool.and_eq_true, Bool.not_eq_true']
            refine ⟨hk, ?_, ?_⟩
            · cases hb : listed.getD k true with
              | false => rfl
              | true => exact absurd ((hl k).1 ((getT true (by omega)).1 hb)) hd
            · rw [hk']
              simp only [Option.map_some, Option.getD_some, Array.all_eq_true', Bool.or_eq_true, Bool.not_eq_true']
              intro e he
              cases hb : Region.binds .any e with
              | false => exact .inl rfl
              | true =>
                have hlt := okDraw_down hok k _ hk' e (by simpa using he) hb
                exact .inr ((getT false (by omega)).2 ((hl _).2 (ih _ hlt (by omega))))
          rw [hr] at this; simp at this
    exact hq K a (h.full hH (Nat.le_refl _) fun k => ⟨h.lt k, all k⟩)
  induction fuel with
  | zero =>
    intro listed K D OB a h hs hl hf
    have hr : Region.ready .any ops listed = [] := by
      rw [List.eq_nil_iff_forall_not_mem]
      intro k hk
      simp only [Region.ready, List.mem_filter, Bool.and_eq_true] at hk
      have : k ∈ (List.range ops.size).filter (fun k => !listed.getD k true) := List.mem_filter.2 ⟨hk.1, hk.2.1⟩
      have h0 := List.eq_nil_of_length_eq_zero (Nat.le_zero.1 hf)
      rw [h0] at this; simp at this
    exact ⟨hr, done h hs hl hr⟩
  | succ fuel ih =>
    intro listed K D OB a h hs hl hf
    refine ⟨done h hs hl, fun i hi => ?_⟩
    simp only [Region.ready, List.mem_filter, List.mem_range, Bool.and_eq_true, Bool.not_eq_true'] at hi
    obtain ⟨hilt, hil, hia⟩ := hi
    have hi' : ops[i]? = some ops[i] := Array.getElem?_eq_getElem hilt
    have hni : ¬ D i := fun hd => by
      have := (getT true (by omega)).2 ((hl i).2 hd)
      rw [hil] at this; simp at this
    have he : Enab ops D i ops[i] := ⟨hi', fun e h1 h2 => by
      rw [hi'] at hia
      simp only [Option.map_some, Option.getD_some, Array.all_eq_true', Bool.or_eq_true, Bool.not_eq_true'] at hia
      rcases hia e (by simpa using h1) with h3 | h3
      · rw [h2] at h3; simp at h3
      · have hlt := okDraw_down hok i _ hi' e h1 h2
        exact (hl _).1 ((getT false (by omega)).1 h3)⟩
    have hlook := fun t (ht : t ∈ ops[i].looksAt ops) => h.looks hok hH he hni ht
    -- the next state
    have next : ∀ {K' : Ctx} {OB' : Nat → Option Ob} {a' : Act}, RInv m w0 F0 ops H K' (fun k => D k ∨ k = i) OB' a' → wpAny E.P .any ops Q fuel (listed.setIfInBounds i true) a' K'.w := fun h' => by
      refine ih _ h' (by simpa using hs) (fun k => ?_) ?_
      · rw [Array.getElem?_setIfInBounds]
        split
        · rename_i e; subst e; simp [show i < listed.size by omega]
        · rename_i e; rw [hl k]; exact ⟨.inl, fun h => h.resolve_right fun e' => e e'.symm⟩
      · have hfe : (List.range ops.size).filter (fun k => !(listed.setIfInBounds i true).getD k true) = ((List.range ops.size).filter (fun k => !listed.getD k true)).filter (fun k => decide (k ≠ i)) := by
          rw [List.filter_filter]
          refine List.filter_congr fun k hk => ?_
          rw [Array.getD_eq_getD_getElem?, Array.getD_eq_getD_getElem?, Array.getElem?_setIfInBounds]
          by_cases e : i = k
          · subst e; simp [show i < listed.size by omega]
          · simp [e, Ne.symm e]
        rw [hfe]
        have : (((List.range ops.size).filter (fun k => !listed.getD k true)).filter (fun k => decide (k ≠ i))).length < ((List.range ops.size).filter (fun k => !listed.getD k true)).length :=
          List.length_filter_lt_length_iff_exists.2 ⟨i, List.mem_filter.2 ⟨by simpa using hilt, by simp [hil]⟩, by simp⟩
        omega
    unfold wpOp
    rw [hi']
    simp only
    have hd' := hd i _ hi'
    cases hH i _ hi' with
    | skip hg ho hn hw =>
      rw [if_neg (by rw [wanted_skip hlook hw]; simp)]
      have hnw : isW ops[i].op = true ∨ isW ops[i].op = false := by cases isW ops[i].op <;> simp
      rcases hnw with hW | hW
      · obtain ⟨S', e1, e2, e3, hinv, hback⟩ := h.stepW hok hH he hni hW
        exact next (hback (hinv.put ops[i].dst hd' (x := .und) (v := undef) (by simp only [RT])) (fun t => by
          rw [get_putO, hg, get_putO]
          split <;> rfl) (fun q => by rw [putO_o, e2, ho]) (by rw [putO_n, e3, hn]))
      · cases hpq : soft ops[i].op with
        | true => exact next (h.stepS hok hH he hni hd' hpq (n0 := 0) (ob := obj []) (fun q y s h1 => by simp [obj] at h1) (x := .und) (val := undef) (Step.same (by simp only [RT])) (fun t => by rw [hg, get_putO]))
        | false =>
          obtain ⟨OB', h'⟩ := h.step hok hH he hni hd' hW (con_ready hok h.closed he hni hpq) (x := .und) (nw := []) (val := undef) (Step.same (by simp only [RT])) (fun t => by rw [hg, get_putO]) (fun q => by rw [ho, if_neg (by rintro ⟨h1, h2⟩; simp at h2; omega)]) (by simpa using hn) (fun y hy => by simp at hy) (fun l' g gen h1 => by simp at h1)
          exact next h'
    | run Sg hg ho hn hw hr =>
      rw [if_pos (wanted_run hlook hw)]
      refine .inl ?_
      have inLook : ∀ z ∈ ops[i].op.operands, ∀ t, z = .tmp t → t ∈ ops[i].looksAt ops := fun z hz t ht => by
        subst ht
        simp only [Oper.looksAt, List.mem_append, List.mem_filterMap]
        exact .inl ⟨.tmp t, by simpa using hz, rfl⟩
      rcases opA_inv hr with ⟨hW, os, hW1, hS⟩ | ⟨hW, x, nw, hN, hS⟩
      · obtain ⟨S', e1, e2, e3, hinv, hback⟩ := h.stepW hok hH he hni hW
        have hW2 : opW E S' ops[i] = some os := opW_congr (fun z hz => by
          cases z with
          | tmp t => show get S'.t t = get Sg.t t; rw [e1 t (inLook _ hz t rfl), hg]
          | const v => rfl
          | func f => rfl
          | global g => rfl) (by rw [e2, ho]) (by rw [e3, hn]) hW1
        obtain ⟨K', hrun, hi2⟩ := opW_sound hinv ops[i] hW2
        unfold Oper.wp
        rw [hrun, Oper.upon_skip]
        refine next (hback (hi2.put ops[i].dst hd' (x := .und) (v := undef) (by simp only [RT])) (fun t => ?_) (fun q => by rw [putO_o, hS, putO_o]) (by rw [putO_n, hS, putO_n]; show S'.n = Sg.n; rw [e3, hn]))
        rw [get_putO, hS, get_putO]
        split <;> rfl
      · rcases Classical.em (Con ops D i) with hcon | hcon
        · have hobj : ∀ q y s, obj Sg.o q = some y → K.σ q = some s → RO K s y := fun q y s h1 h2 => h.oi.objs q y s (h.see i hcon q y (by rw [← ho]; exact h1) (by rw [h2]; simp)) h2
          have hfresh : ∀ j, j < nw.length → K.σ (Sg.n + j) = none := fun j hj => h.fresh_at hok hH he hni (by omega) (by rw [hS, putO_n]; show _ < Sg.n + nw.length; omega)
          have hdo := opN_sound hcl h.good hobj ops[i] hfresh (a := a) (fun z hz => RT_ev fun t ht => by rw [hg]; exact hlook t (inLook z hz t ht)) hN
          refine hdo.wp fun val K' st => ?_
          rw [hn, ho] at st
          obtain ⟨OB', h'⟩ := h.step hok hH he hni hd' hW hcon st (fun t => by rw [hS, get_putO]; show (if _ then x else get Sg.t t) = _; rw [hg]) (fun q => by rw [hS, putO_o, add_o, ho, hn]) (by rw [hS, putO_n]; show Sg.n + nw.length = _; rw [hn]) (opN_live hN) (fun l' g gen h1 h2 => by
            have := opN_tip hN h1 h2
            rw [ho] at this; exact this)
          exact next h'
        · have hsf : soft ops[i].op = true := by
            cases hq : soft ops[i].op with
            | true => rfl
            | false => exact absurd (con_ready hok h.closed he hni hq) hcon
          obtain ⟨rfl, _⟩ := opN_soft hN hsf
          obtain ⟨o2, n2, hob, hN2⟩ : ∃ (o2 : List (Nat × Ob)) (n2 : Nat), (∀ q y s, obj o2 q = some y → K.σ q = some s → OB q = some y) ∧ opN E cl ⟨Sg.t, o2, n2⟩ ops[i] = some (x, [], []) := by
            cases hP : isP ops[i].op with
            | true => exact ⟨[], 0, fun q y s h1 => by simp [obj] at h1, (opN_Pany (S := Sg) (S' := ⟨Sg.t, [], 0⟩) hP rfl).trans hN⟩
            | false =>
              have hL : isL ops[i].op = true := by simpa [soft, hP] using hsf
              obtain ⟨ty, q, hop⟩ : ∃ ty q, ops[i].op = .load ty (.tmp q) := by
                unfold isL at hL
                split at hL
                · rename_i ty q e; exact ⟨ty, q, e⟩
                · simp at hL
              by_cases hpt : ∃ b off, get Sg.t q = .pt b off
              · obtain ⟨b, off, hpt⟩ := hpt
                have hbn : obj (H i).o b ≠ none := fun hno => by
                  have : opN E cl Sg ops[i] = none := by
                    generalize hoo : ops[i] = oo at hop
                    obtain ⟨d, op, ty', pos, af, gg⟩ := oo
                    simp only at hop
                    subst hop
                    simp only [opN, v0, Option.map_eq_none_iff]
                    unfold loadT
                    rw [show Sg.ev (.tmp q) = .pt b off from hpt]
                    simp only [show obj Sg.o b = none from by rw [ho]; exact hno, Option.bind_eq_none_iff]
                    intros; trivial
                  rw [this] at hN; simp at hN
                obtain ⟨p, hp, hc⟩ := h.frontier hok hH hwf0 hchk he hni hop (by rw [← hg]; exact hpt) hbn
                refine ⟨(H p).o, (H p).n, fun q y s h1 h2 => h.see p hp q y h1 (by rw [h2]; simp), (load_same (S := Sg) (S' := ⟨Sg.t, (H p).o, (H p).n⟩) hop rfl fun b' off' e' => ?_).trans hN⟩
                rw [hpt] at e'
                obtain ⟨rfl, rfl⟩ := T.pt.inj e'
                show obj (H p).o b = obj Sg.o b
                rw [hc, ho]
              · exact ⟨[], 0, fun q y s h1 => by simp [obj] at h1, (load_same (S := Sg) (S' := ⟨Sg.t, [], 0⟩) hop rfl fun b off e => absurd ⟨b, off, e⟩ hpt).trans hN⟩
          have hdo := opN_sound hcl h.good (S := ⟨Sg.t, o2, n2⟩) (fun q y s h1 h2 => h.oi.objs q y s (hob q y s h1 h2) h2) ops[i] (fun j hj => by simp at hj) (a := a) (fun z hz => RT_ev fun t ht => by
            show RT K (get Sg.t t) _
            rw [hg]; exact hlook t (inLook z hz t ht)) hN2
          refine hdo.wp fun val K' st => ?_
          exact next (h.stepS hok hH he hni hd' hsf hob st (fun t => by rw [hS, get_putO]; show (if _ then x else get Sg.t t) = _; rw [hg]))
end
end
end Go.Proofs.YtnbijiopcgfmfaaGreat.Tev
/- Code: what the evaluator returns is where the code arrives. -/
namespace Go.Proofs.YtnbijiopcgfmfaaGreat.Tev
open Go Go.RowKit
set_option linter.unusedSectionVars false
set_option linter.unusedVariables false
set_option linter.unusedSimpArgs false
def Ex.conv : Ex → Exit
  | .nor => .normal
  | .exit id => .exit id
  | .ret => .ret
theorem findLoop_find (id : Nat) : ∀ c, findLoop id c = (loopsOf c).find? (fun b => decide (firstId b = id))
  | .loop b => by
    simp only [findLoop, loopsOf, List.find?_cons]
    split
    · rename_i h; simp [h]
    · rename_i h; simp [h, findLoop_find id b]
  | .seq a b => by
    simp only [findLoop, loopsOf, List.find?_append, findLoop_find id a, findLoop_find id b]
    cases (loopsOf a).find? (fun b => decide (firstId b = id)) <;> rfl
  | .cond _ a b => by
    simp only [findLoop, loopsOf, List.find?_append, findLoop_find id a, findLoop_find id b]
    cases (loopsOf a).find? (fun b => decide (firstId b = id)) <;> rfl
  | .block _ b => by simp only [findLoop, loopsOf, findLoop_find id b]
  | .skip => rfl
  | .region .. => rfl
  | .rangeFunc .. => rfl
  | .exit .. => rfl
  | .scope .. => rfl
  | .label .. => rfl
  | .goto .. => rfl
  | .ret => rfl
  | .refuse .. => rfl
theorem find_nodup : ∀ (l : List Code), nodupB (l.map firstId) = true → ∀ b ∈ l, l.find? (fun c => decide (firstId c = firstId b)) = some b
  | [], _, b, hb => by simp at hb
  | c :: l, h, b, hb => by
    simp only [List.map_cons, nodupB, Bool.and_eq_true, Bool.not_eq_true'] at h
    rw [List.find?_cons]
    rcases List.mem_cons.1 hb with rfl | hb'
    · simp
    · have hne : firstId c ≠ firstId b := by
        intro e
        have : (l.map firstId).contains (firstId c) = true := by rw [List.contains_iff_mem, e]; exact List.mem_map_of_mem hb'
        rw [this] at h; simp at h
      simp only [hne, decide_false]
      exact find_nodup l h.2 b hb'
theorem findLoop_of {body : Code} (h : nodupB ((loopsOf body).map firstId) = true) {b : Code} (hb : b ∈ loopsOf body) : findLoop (firstId b) body = some b := by
  rw [findLoop_find]; exact find_nodup _ h b hb

section
variable {E : Env} {O : Ora} {m : Nat} {w0 : World} {F0 : Nat → Prop}
/-- A loop's word. -/
def LoopOK (E : Env) (m : Nat) (w0 : World) (F0 : Nat → Prop) (body : Code) (lp : Nat → St → Option (Ex × St)) : Prop :=
  ∀ id S e S', lp id S = some (e, S') → ∀ b, findLoop id body = some b → ∀ K a, Inv m w0 F0 K S a → ∀ Q : Exit → Act → World → Prop, (∀ K' a', Inv m w0 F0 K' S' a' → Q e.conv a' K'.w) → (Code.loop b).wp E.P Q a K.w
theorem tops_any (hm : E.P.follows .mixedOrders = true) {cl : FuncId → List T → Option R} (hcl : CallOK E.P cl) {K : Ctx} {S S' : St} {a : Act} {id : Nat} {ops : Array Oper} {Q : Exit → Act → World → Prop} (h : Inv m w0 F0 K S a) (hd : ∀ o ∈ ops.toList, ∀ t, o.dst = some t → t < m) {nd : List (Nat × Nat)} (hok : okDraw nd ops = true) (hchk : chk nd S' = true)
    (ht : tops E cl true ops ops.toList S = some S') (hq : ∀ K' a', Inv m w0 F0 K' S' a' → Q .normal a' K'.w) : (Code.region id ops true).wp E.P Q a K.w := by
  obtain ⟨H, h0, hn, hH⟩ := tops_hist ops.toList S S' ht
  have hH' : ∀ i o, ops[i]? = some o → Eff E cl ops (H i) o (H (i + 1)) := fun i o hi => hH i o (by simpa using hi)
  have hsz : ops.toList.length = ops.size := by simp
  refine wp_region_any hm ?_
  subst h0
  have hi := (h.drew)
  have hwf0 : Wf (H 0) := ⟨fun o x hx => by
      rcases Nat.lt_or_ge o (H 0).n with h1 | h1
      · exact h1
      · exact absurd (hi.fresh o h1) (hi.oi.dom o x hx), hi.grp⟩
  refine any_sound hok hH' hwf0 (by rw [← hsz, hn]; exact hchk) hcl (fun i o hi => hd o (by rw [← Array.mem_toList_iff.symm]; exact Array.mem_of_getElem? hi)) (fun K' a' hh => hq K' a' (by rw [← hn, hsz]; exact hh)) ops.size _
    (RInv.ofFull (D := fun _ => False) hok hH' hi (Nat.zero_le _) (fun k => by simp) (fun p _ => Nat.zero_le p)) (by simp) (fun k => by rw [Array.getElem?_replicate]; split <;> simp) (by
      refine Nat.le_trans (List.length_filter_le _ _) (by simp))

theorem okDraw_mono {nd : List (Nat × Nat)} {ops : Array Oper} (h : okDraw [] ops = true) : okDraw nd ops = true := by
  simp only [okDraw, List.all_eq_true, Bool.and_eq_true, Bool.or_eq_true] at h ⊢
  intro y hy
  refine ⟨(h y hy).1, fun x hx => ?_⟩
  rcases (h y hy).2 x hx with h1 | h1
  · exact .inl h1
  · refine .inr ?_
    simp only [pairOk, Bool.or_eq_true, Bool.and_eq_true] at h1 ⊢
    rcases h1 with h1 | ⟨h1, _⟩
    · exact .inl h1
    · have no : ∀ k s i l, apartOk [] ops k s i l = false := fun k s i l => by unfold apartOk; split <;> simp
      rw [no, no] at h1
      simp at h1
theorem okCode_mono {nd : Nat → List (Nat × Nat)} {m : Nat} : ∀ {c : Code}, okCode m c = true → okCodeN nd m c = true := by
  intro c
  induction c with
  | region id ops dr =>
    intro h
    simp only [okCode, okCodeN, Bool.and_eq_true, Bool.or_eq_true] at h ⊢
    exact ⟨h.1, h.2.imp (fun q => q) okDraw_mono⟩
  | seq a b iha ihb => intro h; simp only [okCode, okCodeN, Bool.and_eq_true] at h ⊢; exact ⟨iha h.1, ihb h.2⟩
  | cond c a b iha ihb => intro h; simp only [okCode, okCodeN, Bool.and_eq_true] at h ⊢; exact ⟨iha h.1, ihb h.2⟩
  | block id b ih => intro h; simp only [okCode, okCodeN] at h ⊢; exact ih h
  | loop b ih => intro h; simp only [okCode, okCodeN] at h ⊢; exact ih h
  | _ => intro h; rfl
theorem te_sound (hm : E.P.follows .mixedOrders = true) (hcl : CallOK E.P O.call) {f : FuncId} {body : Code} (hlp : LoopOK E m w0 F0 body (O.loop f)) (hnd : nodupB ((loopsOf body).map firstId) = true) :
    ∀ (c : Code), (∀ b ∈ loopsOf c, b ∈ loopsOf body) → okCodeN (E.nd f) m c = true → ∀ (S : St) (e : Ex) (S' : St), te E O f c S = some (e, S') → ∀ (K : Ctx) (a : Act), Inv m w0 F0 K S a → ∀ Q : Exit → Act → World → Prop,
      (∀ K' a', Inv m w0 F0 K' S' a' → Q e.conv a' K'.w) → c.wp E.P Q a K.w := by
  intro c
  induction c with
  | skip =>
    intro _ _ S e S' h K a hi Q hq
    simp only [te, Option.some.injEq, Prod.mk.injEq] at h; obtain ⟨rfl, rfl⟩ := h
    exact wp_skip (hq K a hi)
  | region id ops dr =>
    intro _ hok S e S' h K a hi Q hq
    simp only [te] at h
    obtain ⟨S1, h1, h2⟩ := Option.bind_eq_some_iff.1 h
    by_cases hck : chk (E.nd f id) S1 = true
    rotate_left
    · rw [if_neg hck] at h2; simp at h2
    rw [if_pos hck] at h2
    simp only [Option.some.injEq, Prod.mk.injEq] at h2; obtain ⟨rfl, rfl⟩ := h2
    simp only [okCodeN, Bool.and_eq_true, List.all_eq_true] at hok
    have hd : ∀ o ∈ ops.toList, ∀ t, o.dst = some t → t < m := fun o ho t ht => by
      have := hok.1 o ho
      rw [ht] at this; simpa using this
    obtain ⟨K', hw, hi'⟩ := hi.frzA (E.fz f id)
    rw [← hw]
    cases dr with
    | false => exact wp_region_list (tops_seq hcl ops.toList hi' hd h1 hq)
    | true => exact tops_any hm hcl hi' hd (by simpa using hok.2) hck h1 hq
  | seq x y ihx ihy =>
    intro hs hok S e S' h K a hi Q hq
    simp only [okCodeN, Bool.and_eq_true] at hok
    simp only [te] at h
    have hsx : ∀ b ∈ loopsOf x, b ∈ loopsOf body := fun b hb => hs b (by simp [loopsOf, hb])
    have hsy : ∀ b ∈ loopsOf y, b ∈ loopsOf body := fun b hb => hs b (by simp [loopsOf, hb])
    refine wp_seq ?_
    split at h
    · rename_i S1 h1
      exact ihx hsx hok.1 S .nor S1 h1 K a hi _ fun K' a' hi' => ihy hsy hok.2 S1 e S' h K' a' hi' Q hq
    · rename_i hne
      refine ihx hsx hok.1 S e S' h K a hi _ fun K' a' hi' => ?_
      cases e with
      | nor => exact absurd h (hne S')
      | exit id => exact hq K' a' hi'
      | ret => exact hq K' a' hi'
  | cond c x y ihx ihy =>
    intro hs hok S e S' h K a hi Q hq
    simp only [okCodeN, Bool.and_eq_true] at hok
    have hsx : ∀ b ∈ loopsOf x, b ∈ loopsOf body := fun b hb => hs b (by simp [loopsOf, hb])
    have hsy : ∀ b ∈ loopsOf y, b ∈ loopsOf body := fun b hb => hs b (by simp [loopsOf, hb])
    have hev : RT K (S.ev c) (a.eval c) := RT_ev fun t _ => hi.tm t
    simp only [te] at h
    split at h
    · rename_i q hc
      rw [hc] at hev
      refine wp_cond (RT_v hev) ?_
      split at h
      · rename_i t
        cases q with
        | true =>
          simp only [cond_true] at h
          exact ihx hsx hok.1 _ e S' h K a (hi.reput hc) Q hq
        | false =>
          simp only [cond_false] at h
          exact ihy hsy hok.2 _ e S' h K a (hi.reput hc) Q hq
      · cases q with
        | true => exact ihx hsx hok.1 _ e S' h K a hi Q hq
        | false => exact ihy hsy hok.2 _ e S' h K a hi Q hq
    · simp at h
  | block id x ih =>
    intro hs hok S e S' h K a hi Q hq
    simp only [okCodeN] at hok
    have hsx : ∀ b ∈ loopsOf x, b ∈ loopsOf body := fun b hb => hs b (by simpa [loopsOf] using hb)
    simp only [te] at h
    refine wp_block ?_
    split at h
    · rename_i i S1 h1
      refine ih hsx hok S (.exit i) S1 h1 K a hi _ fun K' a' hi' => ?_
      simp only [Ex.conv, Exit.inBlock]
      split at h
      · rename_i e1
        simp only [Option.some.injEq, Prod.mk.injEq] at h; obtain ⟨rfl, rfl⟩ := h
        rw [if_pos e1]; exact hq K' a' hi'
      · rename_i e1
        simp only [Option.some.injEq, Prod.mk.injEq] at h; obtain ⟨rfl, rfl⟩ := h
        rw [if_neg e1]; exact hq K' a' hi'
    · rename_i hne
      refine ih hsx hok S e S' h K a hi _ fun K' a' hi' => ?_
      cases e with
      | nor => exact hq K' a' hi'
      | exit i => exact absurd h (hne i S')
      | ret => exact hq K' a' hi'
  | loop b ih =>
    intro hs hok S e S' h K a hi Q hq
    simp only [te] at h
    exact hlp _ S e S' h b (findLoop_of hnd (hs b (by simp [loopsOf]))) K a hi Q hq
  | exit id =>
    intro _ _ S e S' h K a hi Q hq
    simp only [te, Option.some.injEq, Prod.mk.injEq] at h; obtain ⟨rfl, rfl⟩ := h
    exact wp_exit (hq K a hi)
  | ret =>
    intro _ _ S e S' h K a hi Q hq
    simp only [te, Option.some.injEq, Prod.mk.injEq] at h; obtain ⟨rfl, rfl⟩ := h
    exact wp_ret (hq K a hi)
  | scope x _ => intro _ _ S e S' h; simp [te] at h
  | rangeFunc => intro _ _ S e S' h; simp [te] at h
  | label => intro _ _ S e S' h; simp [te] at h
  | goto => intro _ _ S e S' h; simp [te] at h
  | refuse => intro _ _ S e S' h; simp [te] at h
end
end Go.Proofs.YtnbijiopcgfmfaaGreat.Tev
