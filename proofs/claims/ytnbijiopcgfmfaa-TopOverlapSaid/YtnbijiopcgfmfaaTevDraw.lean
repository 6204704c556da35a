/- Regions whose order is drawn: the proof. -/
import Derived.Test.YtnbijiopcgfmfaaTevAny
namespace Go.Proofs.Ytnbijiopcgfmfaa.Tev
open Go Go.RowKit
set_option linter.unusedSectionVars false
set_option linter.unusedVariables false
set_option linter.unusedSimpArgs false
section
variable {E : Env} {cl : FuncId → List T → Option R} {ops : Array Oper}

/-! What the check tells. -/
theorem okDraw_down (hok : okDraw ops = true) : ∀ i o, ops[i]? = some o → ∀ e ∈ o.after.toList, Region.binds .any e = true → e.on < i := by
  intro i o hi e he hb
  simp only [okDraw, List.all_eq_true] at hok
  have := hok (o, i) (List.mem_zipIdx_iff_getElem?.2 (by simpa using hi))
  simp only [Bool.and_eq_true, List.all_eq_true] at this
  have := this.1 e he
  simpa [hb] using this
theorem okDraw_pair (hok : okDraw ops = true) {i j : Nat} {x y : Oper} (hi : ops[i]? = some x) (hj : ops[j]? = some y) (h : i < j) :
    ((ancs ops.toList []).getD j 0).testBit i = true ∨ (isW x.op = false ∧ isW y.op = false ∧ ¬ (isA x.op = true ∧ isA y.op = true) ∧ disj ops x y = true) := by
  simp only [okDraw, List.all_eq_true] at hok
  have := hok (y, j) (List.mem_zipIdx_iff_getElem?.2 (by simpa using hj))
  simp only [Bool.and_eq_true, List.all_eq_true] at this
  have := this.2 (x, i) (List.mem_zipIdx_iff_getElem?.2 (by simpa using hi))
  simp only [Bool.or_eq_true, decide_eq_true_eq, pairOk, Bool.and_eq_true, Bool.not_eq_true'] at this
  rcases this with h1 | h1 | h1
  · omega
  · exact .inl h1
  · refine .inr ⟨h1.1.1.1, h1.1.1.2, fun h2 => ?_, h1.2⟩
    rw [h2.1, h2.2] at h1; simp at h1
/-- An operation whose edges are kept by the set. -/
def Enab (ops : Array Oper) (D : Nat → Prop) (j : Nat) (y : Oper) : Prop := ops[j]? = some y ∧ ∀ e ∈ y.after.toList, Region.binds .any e = true → D e.on
theorem ord (hok : okDraw ops = true) {D : Nat → Prop} (hD : Closed ops D) {i j : Nat} {x y : Oper} (hi : ops[i]? = some x) (hj : Enab ops D j y) (h : i < j) :
    D i ∨ (isW x.op = false ∧ isW y.op = false ∧ ¬ (isA x.op = true ∧ isA y.op = true) ∧ disj ops x y = true) := by
  rcases okDraw_pair hok hi hj.1 h with h1 | h1
  · exact .inl (ancs_closed (okDraw_down hok) hD j y hj.1 hj.2 i h1)
  · exact .inr h1
def Wat (ops : Array Oper) (k : Nat) : Prop := ∃ o, ops[k]? = some o ∧ isW o.op = true
def Wr (ops : Array Oper) (k t : Nat) : Prop := ∃ o, ops[k]? = some o ∧ o.dst = some t
/-- A place in the text whose writes are those that were executed. -/
structure Con (ops : Array Oper) (D : Nat → Prop) (p : Nat) : Prop where
  le : p ≤ ops.size
  lo : ∀ k, k < p → Wat ops k → D k
  hi : ∀ k, p ≤ k → Wat ops k → ¬ D k

structure Wf (S : St) : Prop where
  lt : ∀ o x, obj S.o o = some x → o < S.n
  grp : ∀ o l g e, obj S.o o = some (.arr l g e) → g < S.n

/-! The states of the text. -/
theorem opA_inv {S S1 : St} {o : Oper} (h : opA E cl true S o = some S1) :
    (isW o.op = true ∧ ∃ os, opW E S o = some os ∧ S1 = St.putO { S with o := os } o.dst .und) ∨ (isW o.op = false ∧ ∃ x nw, opN E cl S o = some (x, nw, []) ∧ S1 = (S.add [] nw).putO o.dst x) := by
  unfold opA at h
  split at h
  · rename_i hw
    obtain ⟨os, h1, h2⟩ := Option.map_eq_some_iff.1 h
    exact .inl ⟨hw, os, h1, h2.symm⟩
  · rename_i hw
    obtain ⟨⟨x, nw, fz⟩, h1, h2⟩ := Option.bind_eq_some_iff.1 h
    cases fz with
    | cons a b => simp [frOk] at h2
    | nil => simp [frOk] at h2; exact .inr ⟨by simpa using hw, x, nw, h1, h2.symm⟩
theorem putO_o (S : St) (d : Option Nat) (x : T) : (S.putO d x).o = S.o := by cases d <;> rfl
theorem putO_n (S : St) (d : Option Nat) (x : T) : (S.putO d x).n = S.n := by cases d <;> rfl
theorem get_putO (S : St) (d : Option Nat) (x : T) (t : Nat) : get (S.putO d x).t t = if d = some t then x else get S.t t := by
  cases d with
  | none => simp [St.putO]
  | some d => show get (S.put d x).t t = _; rw [get_put]; simp
theorem frzGs_nil (l : List (Nat × Ob)) : frzGs [] l = l := rfl
theorem add_o (S : St) (nw : List Ob) (o : Nat) : obj (S.add [] nw).o o = if S.n ≤ o ∧ o < S.n + nw.length then nw[o - S.n]? else obj S.o o := obj_addO _ _ _ _
/-- What does not write leaves the elder objects and adds new ones. -/
theorem eff_n {S S1 : St} {o : Oper} (h : Eff E cl ops S o S1) : S.n ≤ S1.n := by
  cases h with
  | run Sg hg ho hn hw h =>
    rcases opA_inv h with ⟨_, os, _, rfl⟩ | ⟨_, x, nw, _, rfl⟩
    · rw [putO_n]; show S.n ≤ Sg.n; omega
    · rw [putO_n]; show S.n ≤ Sg.n + nw.length; omega
  | skip hg ho hn hw => omega
theorem eff_get {S S1 : St} {o : Oper} (h : Eff E cl ops S o S1) (t : Nat) (ht : o.dst ≠ some t) : get S1.t t = get S.t t := by
  cases h with
  | run Sg hg ho hn hw h =>
    rcases opA_inv h with ⟨_, os, _, rfl⟩ | ⟨_, x, nw, _, rfl⟩
    · rw [get_putO, if_neg ht]; exact hg t
    · rw [get_putO, if_neg ht]; exact hg t
  | skip hg ho hn hw => rw [hg, get_putO, if_neg ht]
theorem eff_old {S S1 : St} {o : Oper} (h : Eff E cl ops S o S1) (hw : isW o.op = false) (q : Nat) (hq : q < S.n) : obj S1.o q = obj S.o q := by
  cases h with
  | run Sg hg ho hn _ h =>
    rcases opA_inv h with ⟨h1, _⟩ | ⟨_, x, nw, _, rfl⟩
    · rw [hw] at h1; simp at h1
    · rw [putO_o, add_o, if_neg (by omega), ho]
  | skip hg ho hn _ => rw [ho]
theorem eff_wf {S S1 : St} {o : Oper} (h : Eff E cl ops S o S1) (hw : isW o.op = false) (hf : Wf S) : Wf S1 := by
  cases h with
  | run Sg hg ho hn _ h =>
    rcases opA_inv h with ⟨h1, _⟩ | ⟨_, x, nw, hN, rfl⟩
    · rw [hw] at h1; simp at h1
    · have hfg : Wf Sg := ⟨fun o x => by rw [ho, hn]; exact hf.lt o x, fun o l g e => by rw [ho, hn]; exact hf.grp o l g e⟩
      refine ⟨fun q y hy => ?_, fun q l g e hy => ?_⟩
      · rw [putO_o, add_o] at hy; rw [putO_n]; show q < Sg.n + nw.length
        split at hy
        · omega
        · have := hfg.lt _ _ hy; omega
      · rw [putO_o, add_o] at hy; rw [putO_n]; show g < Sg.n + nw.length
        split at hy
        · rcases opN_grp hN (List.mem_of_getElem? hy) with h1 | ⟨_, p, l0, e0, h1⟩
          · exact h1.2
          · have := hfg.grp _ _ _ _ h1; omega
        · have := hfg.grp _ _ _ _ hy; omega
  | skip hg ho hn _ => exact ⟨fun o x => by rw [ho, hn]; exact hf.lt o x, fun o l g e => by rw [ho, hn]; exact hf.grp o l g e⟩

section
variable {H : Nat → St} (hH : ∀ i o, ops[i]? = some o → Eff E cl ops (H i) o (H (i + 1)))
include hH
theorem H_n {p q : Nat} (hpq : p ≤ q) (hq : q ≤ ops.size) : (H p).n ≤ (H q).n := by
  induction q with
  | zero => obtain rfl : p = 0 := by omega
            exact Nat.le_refl _
  | succ q ih =>
    rcases Nat.lt_or_ge p (q + 1) with h | h
    · exact Nat.le_trans (ih (by omega) (by omega)) (eff_n (hH q ops[q] (Array.getElem?_eq_getElem (by omega))))
    · obtain rfl : p = q + 1 := by omega
      exact Nat.le_refl _
theorem H_get {p q t : Nat} (hpq : p ≤ q) (hq : q ≤ ops.size) (hw : ∀ k, p ≤ k → k < q → ¬ Wr ops k t) : get (H q).t t = get (H p).t t := by
  induction q with
  | zero => obtain rfl : p = 0 := by omega
            rfl
  | succ q ih =>
    rcases Nat.lt_or_ge p (q + 1) with h | h
    · have he := hH q ops[q] (Array.getElem?_eq_getElem (by omega))
      rw [eff_get he t (fun hd => hw q (by omega) (by omega) ⟨_, Array.getElem?_eq_getElem (by omega), hd⟩)]
      exact ih (by omega) (by omega) fun k h1 h2 => hw k h1 (by omega)
    · obtain rfl : p = q + 1 := by omega
      rfl
theorem H_old {p q o : Nat} (hpq : p ≤ q) (hq : q ≤ ops.size) (hw : ∀ k, p ≤ k → k < q → ¬ Wat ops k) (ho : o < (H p).n) : obj (H q).o o = obj (H p).o o := by
  induction q with
  | zero => obtain rfl : p = 0 := by omega
            rfl
  | succ q ih =>
    rcases Nat.lt_or_ge p (q + 1) with h | h
    · have hq' : ops[q]? = some ops[q] := Array.getElem?_eq_getElem (by omega)
      have he := hH q ops[q] hq'
      have hnw : isW ops[q].op = false := by
        cases hb : isW ops[q].op with
        | false => rfl
        | true => exact absurd ⟨_, hq', hb⟩ (hw q (by omega) (by omega))
      rw [eff_old he hnw o (Nat.lt_of_lt_of_le ho (H_n hH (by omega) (by omega)))]
      exact ih (by omega) (by omega) fun k h1 h2 => hw k h1 (by omega)
    · obtain rfl : p = q + 1 := by omega
      rfl
theorem H_wf {p q : Nat} (hpq : p ≤ q) (hq : q ≤ ops.size) (hw : ∀ k, p ≤ k → k < q → ¬ Wat ops k) (hf : Wf (H p)) : Wf (H q) := by
  induction q with
  | zero => obtain rfl : p = 0 := by omega
            exact hf
  | succ q ih =>
    rcases Nat.lt_or_ge p (q + 1) with h | h
    · have hq' : ops[q]? = some ops[q] := Array.getElem?_eq_getElem (by omega)
      have hnw : isW ops[q].op = false := by
        cases hb : isW ops[q].op with
        | false => rfl
        | true => exact absurd ⟨_, hq', hb⟩ (hw q (by omega) (by omega))
      exact eff_wf (hH q ops[q] hq') hnw (ih (by omega) (by omega) fun k h1 h2 => hw k h1 (by omega))
    · obtain rfl : p = q + 1 := by omega
      exact hf
/-- Who made a name. -/
theorem H_made {q o : Nat} (hq : q ≤ ops.size) (h0 : (H 0).n ≤ o) (h1 : o < (H q).n) : ∃ k, k < q ∧ (H k).n ≤ o ∧ o < (H (k + 1)).n := by
  induction q with
  | zero => omega
  | succ q ih =>
    rcases Nat.lt_or_ge o (H q).n with h | h
    · obtain ⟨k, h2, h3⟩ := ih (by omega) h
      exact ⟨k, by omega, h3⟩
    · exact ⟨q, by omega, h, h1⟩
end
/-- Two places that agree with the executed set have no write between them. -/
theorem Con.between {D : Nat → Prop} {p q : Nat} (hp : Con ops D p) (hq : Con ops D q) : ∀ k, p ≤ k → k < q → ¬ Wat ops k := fun k h1 h2 hk => hp.hi k h1 hk (hq.lo k h2 hk)

/-- The invariant when only some were executed. -/
structure RInv (m : Nat) (w0 : World) (F0 : Nat → Prop) (ops : Array Oper) (H : Nat → St) (K : Ctx) (D : Nat → Prop) (OB : Nat → Option Ob) (a : Act) : Prop where
  good : Good K
  base : K.base = w0.heap.size
  below : Below w0.heap.size w0 K.w
  Fin : ∀ b, F0 b → K.F b
  Fout : ∀ b, K.F b → F0 b ∨ w0.heap.size ≤ b
  size : a.tmps.size = m
  defers : a.defers = []
  closed : Closed ops D
  lt : ∀ i, D i → i < ops.size
  tm : ∀ t, ∃ j, j ≤ ops.size ∧ RT K (get (H j).t t) (a.tmps.getD t undef) ∧ (∀ i, i < j → Wr ops i t → D i) ∧ (∀ i, j ≤ i → Wr ops i t → ¬ D i)
  oi : OInv K OB
  see : ∀ p, Con ops D p → ∀ o x, obj (H p).o o = some x → K.σ o ≠ none → OB o = some x
  back : ∀ p, Con ops D p → ∀ o x, OB o = some x → o < (H p).n → obj (H p).o o = some x
  wf : ∀ p, Con ops D p → Wf (H p)
  dom : ∀ o, K.σ o ≠ none → o < (H 0).n ∨ ∃ i, D i ∧ (H i).n ≤ o ∧ o < (H (i + 1)).n
  has : ∀ p, Con ops D p → ∀ o x, obj (H p).o o = some x → (o < (H 0).n ∨ ∃ i, D i ∧ (H i).n ≤ o ∧ o < (H (i + 1)).n) → K.σ o ≠ none
section
variable {m : Nat} {w0 : World} {F0 : Nat → Prop} {K : Ctx} {D : Nat → Prop} {OB : Nat → Option Ob} {a : Act} {H : Nat → St}
/-- All that is ahead in the text was executed and nothing else: the invariant of the text's order. -/
theorem RInv.full (hH : ∀ i o, ops[i]? = some o → Eff E cl ops (H i) o (H (i + 1))) (h : RInv m w0 F0 ops H K D OB a) {i : Nat} (hi : i ≤ ops.size) (hD : ∀ k, D k ↔ k < i) : Inv m w0 F0 K (H i) a := by
  have hcon : Con ops D i := ⟨hi, fun k hk _ => (hD k).2 hk, fun k hk _ hd => by have := (hD k).1 hd; omega⟩
  have hwf := h.wf i hcon
  have hnames : ∀ o, K.σ o ≠ none → o < (H i).n := fun o ho => by
    rcases h.dom o ho with h1 | ⟨k, h1, h2, h3⟩
    · exact Nat.lt_of_lt_of_le h1 (H_n hH (by omega) hi)
    · exact Nat.lt_of_lt_of_le h3 (H_n hH ((hD k).1 h1) hi)
  have hOB : OB = obj (H i).o := by
    funext o
    cases ho : obj (H i).o o with
    | some x =>
      refine h.see i hcon o x ho ?_
      have hlt := hwf.lt _ _ ho
      refine h.has i hcon o x ho ?_
      rcases Nat.lt_or_ge o (H 0).n with h1 | h1
      · exact .inl h1
      · obtain ⟨k, h2, h3, h4⟩ := H_made hH hi h1 hlt
        exact .inr ⟨k, (hD k).2 h2, h3, h4⟩
    | none =>
      cases hb : OB o with
      | none => rfl
      | some x =>
        have := h.back i hcon o x hb (hnames o (h.oi.dom o x hb))
        rw [ho] at this; simp at this
  exact {
    good := h.good, base := h.base, below := h.below, Fin := h.Fin, Fout := h.Fout, size := h.size, defers := h.defers
    tm := fun t => by
      obtain ⟨j, hj, h1, h2, h3⟩ := h.tm t
      rcases Nat.le_total j i with hji | hji
      · rw [H_get hH hji hi (fun k hk1 hk2 hw => h3 k hk1 hw ((hD k).2 hk2))]; exact h1
      · rw [← H_get hH hji hj (fun k hk1 hk2 hw => by have := (hD k).1 (h2 k hk2 hw); omega)]; exact h1
    oi := hOB ▸ h.oi
    fresh := fun o ho => by
      cases hs : K.σ o with
      | none => rfl
      | some s => have := hnames o (by rw [hs]; simp); omega
    grp := hwf.grp }
theorem RInv.ofFull (hok : okDraw ops = true) (hH : ∀ i o, ops[i]? = some o → Eff E cl ops (H i) o (H (i + 1))) {j : Nat} (h : Inv m w0 F0 K (H j) a) (hj : j ≤ ops.size) (hD : ∀ k, D k ↔ k < j) (hp : ∀ p, Con ops D p → j ≤ p) : RInv m w0 F0 ops H K D (obj (H j).o) a := by
  have hlt : ∀ o, K.σ o ≠ none → o < (H j).n := fun o ho => by
    rcases Nat.lt_or_ge o (H j).n with h1 | h1
    · exact h1
    · exact absurd (h.fresh o h1) ho
  have hnw : ∀ {p}, Con ops D p → ∀ k, j ≤ k → k < p → ¬ Wat ops k := fun hp k h1 hk hw => by
    have := (hD k).1 (hp.lo k hk hw); omega
  have hold : ∀ {p}, Con ops D p → ∀ o, o < (H j).n → obj (H p).o o = obj (H j).o o := fun hc o ho => H_old hH (hp _ hc) hc.le (hnw hc) ho
  have hwf : Wf (H j) := ⟨fun o x hx => hlt o (h.oi.dom o x hx), h.grp⟩
  exact {
    good := h.good, base := h.base, below := h.below, Fin := h.Fin, Fout := h.Fout, size := h.size, defers := h.defers
    closed := fun i o hi hd e h1 h2 => (hD _).2 (Nat.lt_trans (okDraw_down hok i o hi e h1 h2) ((hD i).1 hd))
    lt := fun i hd => by have := (hD i).1 hd; omega
    tm := fun t => ⟨j, hj, h.tm t, fun i hi _ => (hD i).2 hi, fun i hi _ hd => by have := (hD i).1 hd; omega⟩
    oi := h.oi
    see := fun p hc o x hx hs => by rw [← hold hc o (hlt o hs)]; exact hx
    back := fun p hc o x hx _ => by rw [hold hc o (hlt o (h.oi.dom o x hx))]; exact hx
    wf := fun p hc => H_wf hH (hp p hc) hc.le (hnw hc) hwf
    dom := fun o ho => by
      rcases Nat.lt_or_ge o (H 0).n with h1 | h1
      · exact .inl h1
      · obtain ⟨k, h2, h3⟩ := H_made hH hj h1 (hlt o ho)
        exact .inr ⟨k, (hD k).2 h2, h3⟩
    has := fun p hc o x hx ho => by
      have : o < (H j).n := by
        rcases ho with h1 | ⟨i, h1, h2, h3⟩
        · exact Nat.lt_of_lt_of_le h1 (H_n hH (Nat.zero_le _) hj)
        · exact Nat.lt_of_lt_of_le h3 (H_n hH ((hD i).1 h1) hj)
      rw [hold hc o this] at hx; exact h.oi.dom o x hx }
/-- A ready operation's place agrees with the executed set. -/
theorem con_ready (hok : okDraw ops = true) (hD : Closed ops D) {i : Nat} {o : Oper} (he : Enab ops D i o) (hni : ¬ D i) : Con ops D i where
  le := by
    rcases Nat.lt_or_ge i ops.size with h | h
    · omega
    · have := he.1; simp [Array.getElem?_eq_none h] at this
  lo := fun k hk ⟨x, hx, hw⟩ => by
    rcases ord hok hD hx he hk with h1 | h1
    · exact h1
    · rw [hw] at h1; simp at h1
  hi := fun k hk ⟨y, hy, hw⟩ hd => by
    rcases Nat.lt_or_ge i k with h | h
    · rcases ord hok hD he.1 ⟨hy, fun e h1 h2 => hD k y hy hd e h1 h2⟩ h with h1 | h1
      · exact hni h1
      · rw [hw] at h1; simp at h1
    · obtain rfl : i = k := by omega
      exact hni hd
theorem disj_l {x y : Oper} (h : disj ops x y = true) {d : Nat} (hd : x.dst = some d) : d ∉ y.looksAt ops ∧ y.dst ≠ some d := by
  simp only [disj, hd, Bool.and_eq_true, Bool.not_eq_true', bne_iff_ne] at h
  exact ⟨by have := h.1.1; simpa [List.contains_iff_mem] using this, h.1.2⟩
theorem disj_r {x y : Oper} (h : disj ops x y = true) {d : Nat} (hd : y.dst = some d) : d ∉ x.looksAt ops := by
  simp only [disj, hd, Bool.and_eq_true, Bool.not_eq_true'] at h
  have := h.2; simpa [List.contains_iff_mem] using this
/-- What a ready operation looks at stands as in the text. -/
theorem RInv.looks (hok : okDraw ops = true) (hH : ∀ i o, ops[i]? = some o → Eff E cl ops (H i) o (H (i + 1))) (h : RInv m w0 F0 ops H K D OB a) {i : Nat} {o : Oper} (he : Enab ops D i o) (hni : ¬ D i) {t : Nat} (ht : t ∈ o.looksAt ops) :
    RT K (get (H i).t t) (a.tmps.getD t undef) := by
  have hcon := con_ready hok h.closed he hni
  obtain ⟨j, hj, h1, h2, h3⟩ := h.tm t
  rcases Nat.le_total j i with hji | hji
  · rw [H_get hH hji hcon.le (fun k hk1 hk2 hw => ?_)]; exact h1
    obtain ⟨x, hx, hxd⟩ := hw
    rcases ord hok h.closed hx he hk2 with h4 | h4
    · exact h3 k hk1 ⟨x, hx, hxd⟩ h4
    · exact (disj_l h4.2.2.2 hxd).1 ht
  · rw [← H_get hH hji hj (fun k hk1 hk2 hw => ?_)]; exact h1
    have hd := h2 k hk2 hw
    obtain ⟨y, hy, hyd⟩ := hw
    rcases Nat.lt_or_ge i k with h5 | h5
    · rcases ord hok h.closed he.1 ⟨hy, fun e h6 h7 => h.closed k y hy hd e h6 h7⟩ h5 with h4 | h4
      · exact hni h4
      · exact disj_r h4.2.2.2 hyd ht
    · obtain rfl : i = k := by omega
      exact hni hd
theorem closed_add (hD : Closed ops D) {i : Nat} {o : Oper} (he : Enab ops D i o) : Closed ops (fun k => D k ∨ k = i) := by
  intro k x hx hk e h1 h2
  rcases hk with hk | rfl
  · exact .inl (hD k x hx hk e h1 h2)
  · have := he.1; rw [hx] at this; obtain rfl := Option.some.inj this
    exact .inl (he.2 e h1 h2)
theorem Con.of_add {i p : Nat} {o : Oper} (hi : ops[i]? = some o) (hw : isW o.op = false) (h : Con ops (fun k => D k ∨ k = i) p) : Con ops D p where
  le := h.le
  lo := fun k hk hwk => by
    rcases h.lo k hk hwk with h1 | rfl
    · exact h1
    · obtain ⟨x, hx, hxw⟩ := hwk
      rw [hi] at hx; obtain rfl := Option.some.inj hx
      rw [hw] at hxw; simp at hxw
  hi := fun k hk hwk hd => h.hi k hk hwk (.inl hd)
/-- The names that an operation is to make stand for nothing yet. -/
theorem RInv.fresh_at (hok : okDraw ops = true) (hH : ∀ i o, ops[i]? = some o → Eff E cl ops (H i) o (H (i + 1))) (h : RInv m w0 F0 ops H K D OB a) {i : Nat} {o : Oper} (he : Enab ops D i o) (hni : ¬ D i) {q : Nat} (h1 : (H i).n ≤ q) (h2 : q < (H (i + 1)).n) : K.σ q = none := by
  have hcon := con_ready hok h.closed he hni
  cases hs : K.σ q with
  | none => rfl
  | some s =>
    rcases h.dom q (by rw [hs]; simp) with h3 | ⟨k, h3, h4, h5⟩
    · have := H_n hH (Nat.zero_le i) hcon.le; omega
    · rcases Nat.lt_trichotomy k i with h6 | rfl | h6
      · have := H_n hH (show k + 1 ≤ i by omega) hcon.le; omega
      · exact absurd h3 hni
      · have := H_n hH (show i + 1 ≤ k by omega) (Nat.le_of_lt (h.lt k h3)); omega
/-- One operation that writes nothing old. -/
theorem RInv.step (hok : okDraw ops = true) (hH : ∀ i o, ops[i]? = some o → Eff E cl ops (H i) o (H (i + 1))) (h : RInv m w0 F0 ops H K D OB a) {i : Nat} {o : Oper} (he : Enab ops D i o) (hni : ¬ D i) (hd : ∀ t, o.dst = some t → t < m) (hw : isW o.op = false)
    {x : T} {nw : List Ob} {K' : Ctx} {val : Value} (st : Step K (H i).n (obj (H i).o) x nw [] K' val)
    (hg1 : ∀ t, get (H (i + 1)).t t = if o.dst = some t then x else get (H i).t t) (ho1 : ∀ q, obj (H (i + 1)).o q = if (H i).n ≤ q ∧ q < (H i).n + nw.length then nw[q - (H i).n]? else obj (H i).o q) (hn1 : (H (i + 1)).n = (H i).n + nw.length)
    (hlive : ∀ y ∈ nw, y ≠ .dead) (htipN : ∀ l' g gen, nw = [.arr l' g (gen + 1)] → 0 < gen → tipOk g gen (H i).o = true ∧ isA o.op = true ∧ ∃ p l0, obj (H i).o p = some (.arr l0 g gen)) :
    ∃ OB', RInv m w0 F0 ops H K' (fun k => D k ∨ k = i) OB' (a.put o.dst val) := by
  have hcon := con_ready hok h.closed he hni
  have hi : i < ops.size := by
    rcases Nat.lt_or_ge i ops.size with h | h
    · exact h
    · have := he.1; simp [Array.getElem?_eq_none h] at this
  have hfresh : ∀ q, (H i).n ≤ q → q < (H (i + 1)).n → K.σ q = none := fun q h1 h2 => by
    cases hs : K.σ q with
    | none => rfl
    | some s =>
      rcases h.dom q (by rw [hs]; simp) with h3 | ⟨k, h3, h4, h5⟩
      · have := H_n hH (Nat.zero_le i) hcon.le; omega
      · rcases Nat.lt_trichotomy k i with h6 | rfl | h6
        · have := H_n hH (show k + 1 ≤ i by omega) hcon.le; omega
        · exact absurd h3 hni
        · have := H_n hH (show i + 1 ≤ k by omega) (Nat.le_of_lt (h.lt k h3)); omega
  have hobj : ∀ q y s, obj (H i).o q = some y → K.σ q = some s → RO K s y := fun q y s h1 h2 => h.oi.objs q y s (h.see i hcon q y h1 (by rw [h2]; simp)) h2
  have hoi := OInv.step (fz := []) h.good h.oi (fun q y s h1 h2 => h.see i hcon q y h1 (by rw [h2]; simp)) (fun hf => absurd rfl hf)
    (fun j hj => hfresh _ (by omega) (by omega)) hlive (fun p l l' g gen h1 h2 h3 o' y g' e' h4 h5 => by
      obtain ⟨h6, h7, p0, l0, h8⟩ := htipN l' g gen h1 h3
      rcases Nat.lt_or_ge o' (H i).n with h9 | h9
      · exact tipOk_get h6 (h.back i hcon o' _ h4 h9) h5
      · exfalso
        rcases h.dom o' (h.oi.dom _ _ h4) with h10 | ⟨k, h10, h11, h12⟩
        · have := H_n hH (Nat.zero_le i) hcon.le; omega
        · rcases Nat.lt_trichotomy k i with h13 | rfl | h13
          · have := H_n hH (show k + 1 ≤ i by omega) hcon.le; omega
          · exact hni h10
          · have hk := h.lt k h10
            have hk' : ops[k]? = some ops[k] := Array.getElem?_eq_getElem hk
            have hek : Enab ops D k ops[k] := ⟨hk', fun e h1 h2 => h.closed k _ hk' h10 e h1 h2⟩
            have hck : Con ops D (k + 1) := ⟨hk, fun u hu hwu => by
              rcases Nat.lt_or_ge u k with h14 | h14
              · obtain ⟨z, hz, hzw⟩ := hwu
                rcases ord hok h.closed hz hek h14 with h15 | h15
                · exact h15
                · rw [hzw] at h15; simp at h15
              · obtain rfl : u = k := by omega
                exact h10, fun u hu hwu hdu => hcon.hi u (by omega) hwu hdu⟩
            have hb := h.back (k + 1) hck o' _ h4 h12
            have hg := (h.wf i hcon).grp _ _ _ _ h8
            have hmn := H_n hH (Nat.le_of_lt h13) (Nat.le_of_lt hk)
            cases hH k _ hk' with
            | run Sg hg' ho' hn' _ hr =>
              rcases opA_inv hr with ⟨h16, _⟩ | ⟨_, x2, nw2, hN, hS⟩
              · exact hcon.hi k (by omega) ⟨_, hk', h16⟩ h10
              · rw [hS, putO_o, add_o, if_pos (by rw [hS, putO_n] at h12; exact ⟨by omega, h12⟩)] at hb
                rcases opN_grp hN (List.mem_of_getElem? hb) with h17 | ⟨h17, _⟩
                · omega
                · rcases ord hok h.closed he.1 hek h13 with h18 | h18
                  · exact hni h18
                  · exact h18.2.2.1 ⟨h7, h17⟩
            | skip _ _ hn' _ => omega) st
  have hold : ∀ q, ¬ ((H i).n ≤ q ∧ q < (H i).n + nw.length) → (if (H i).n ≤ q ∧ q < (H i).n + nw.length then nw[q - (H i).n]? else (OB q).map (frzs [])) = OB q := fun q hq => by
    rw [if_neg hq]; cases OB q <;> rfl
  have hσ : ∀ q, K'.σ q ≠ none → K.σ q ≠ none ∨ ((H i).n ≤ q ∧ q < (H i).n + nw.length) := fun q hq => by
    cases hs : K'.σ q with
    | none => exact absurd hs hq
    | some s =>
      rcases st.dom q s hs with h1 | ⟨j, h1, h2⟩
      · exact .inl (by rw [h1]; simp)
      · exact .inr (by omega)
  have hσ2 : ∀ q, K.σ q ≠ none → K'.σ q ≠ none := fun q hq => by
    cases hs : K.σ q with
    | none => exact absurd hs hq
    | some s => rw [st.ext.σ q s hs]; simp
  -- what a place sees of the new names
  have hseen : ∀ p, Con ops D p → ∀ q, (H i).n ≤ q ∧ q < (H i).n + nw.length → q < (H p).n → obj (H p).o q = nw[q - (H i).n]? := fun p hp q hq hqp => by
    rcases Nat.lt_or_ge i p with h1 | h1
    · rw [H_old hH (show i + 1 ≤ p by omega) hp.le (fun k h2 h3 hk => hcon.hi k (by omega) hk (hp.lo k h3 hk)) (by omega), ho1, if_pos hq]
    · have := H_n hH h1 hcon.le; omega
  have hsz : ∀ q, q < ops.size → True := fun _ _ => trivial
  refine ⟨_, {
    good := h.good.step hobj st
    base := st.ext.base.trans h.base
    below := h.below.trans (st.below.mono (by rw [h.base]; exact Nat.le_refl _))
    Fin := fun b hb => st.ext.F b (h.Fin b hb)
    Fout := fun b hb => by
      rcases st.F b hb with h1 | ⟨h1, _⟩ | ⟨o, l, g, e, sh, h1, h2, h3⟩
      · exact h.Fout b h1
      · exact .inr (Nat.le_trans h.below.size h1)
      · simp at h2
    size := (put_size a o.dst val).trans h.size
    defers := by cases hdd : o.dst <;> simp [Act.put, h.defers]
    closed := closed_add h.closed he
    lt := fun k hk => by rcases hk with hk | rfl; exact h.lt k hk; exact hi
    tm := fun t => ?_
    oi := hoi
    see := fun p hp q y hy hs => ?_
    back := fun p hp q y hy hq => ?_
    wf := fun p hp => h.wf p (hp.of_add he.1 hw)
    dom := fun q hq => ?_
    has := fun p hp q y hy ho => ?_ }⟩
  · by_cases hdt : o.dst = some t
    · refine ⟨i + 1, hi, ?_, fun k hk hwk => ?_, fun k hk hwk hdk => ?_⟩
      · rw [hg1, if_pos hdt, hdt, getD_put a t val t (by rw [h.size]; exact hd t hdt), if_pos rfl]
        exact st.val
      · rcases Nat.lt_or_ge k i with h1 | h1
        · obtain ⟨z, hz, hzd⟩ := hwk
          rcases ord hok h.closed hz he h1 with h2 | h2
          · exact .inl h2
          · exact absurd hdt (disj_l h2.2.2.2 hzd).2
        · exact .inr (by omega)
      · rcases hdk with hdk | rfl
        · obtain ⟨z, hz, hzd⟩ := hwk
          rcases ord hok h.closed he.1 ⟨hz, fun e h6 h7 => h.closed k z hz hdk e h6 h7⟩ (by omega) with h2 | h2
          · exact hni h2
          · exact (disj_l h2.2.2.2 hdt).2 hzd
        · omega
    · obtain ⟨j, hj, h1, h2, h3⟩ := h.tm t
      refine ⟨j, hj, ?_, fun k hk hwk => .inl (h2 k hk hwk), fun k hk hwk hdk => ?_⟩
      · have : (a.put o.dst val).tmps.getD t undef = a.tmps.getD t undef := by
          cases hod : o.dst with
          | none => rfl
          | some d => rw [getD_put a d val t (by rw [h.size]; exact hd d hod), if_neg (by rintro rfl; exact hdt hod)]
        rw [this]
        exact RT.mono st.ext _ _ h1
      · rcases hdk with hdk | rfl
        · exact h3 k hk hwk hdk
        · obtain ⟨z, hz, hzd⟩ := hwk
          have := he.1; rw [hz] at this; obtain rfl := Option.some.inj this
          exact hdt hzd
  · have hp' := hp.of_add he.1 hw
    by_cases hq : (H i).n ≤ q ∧ q < (H i).n + nw.length
    · rw [if_pos hq, ← hseen p hp' q hq ((h.wf p hp').lt _ _ hy)]; exact hy
    · rw [hold q hq]
      rcases hσ q hs with h1 | h1
      · exact h.see p hp' q y hy h1
      · exact absurd h1 hq
  · have hp' := hp.of_add he.1 hw
    by_cases hqq : (H i).n ≤ q ∧ q < (H i).n + nw.length
    · rw [if_pos hqq] at hy; rw [hseen p hp' q hqq hq]; exact hy
    · rw [hold q hqq] at hy
      exact h.back p hp' q y hy hq
  · rcases hσ q hq with h1 | h1
    · rcases h.dom q h1 with h2 | ⟨k, h2, h3⟩
      · exact .inl h2
      · exact .inr ⟨k, .inl h2, h3⟩
    · exact .inr ⟨i, .inr rfl, h1.1, by omega⟩
  · rcases ho with ho | ⟨k, hk | rfl, h1, h2⟩
    · exact hσ2 q (h.has p (hp.of_add he.1 hw) q y hy (.inl ho))
    · exact hσ2 q (h.has p (hp.of_add he.1 hw) q y hy (.inr ⟨k, hk, h1, h2⟩))
    · have hlt : q - (H k).n < nw.length := by omega
      obtain ⟨s, hs, _⟩ := st.new (q - (H k).n) _ (List.getElem?_eq_getElem hlt)
      rw [show (H k).n + (q - (H k).n) = q by omega] at hs
      rw [hs]; simp
/-- One operation that writes. -/
theorem RInv.stepW (hok : okDraw ops = true) (hH : ∀ i o, ops[i]? = some o → Eff E cl ops (H i) o (H (i + 1))) (h : RInv m w0 F0 ops H K D OB a) {i : Nat} {o : Oper} (he : Enab ops D i o) (hni : ¬ D i) (hd : ∀ t, o.dst = some t → t < m) (hw : isW o.op = true) :
    Inv m w0 F0 K (H i) a ∧ ∀ {K' : Ctx} {a' : Act}, Inv m w0 F0 K' (H (i + 1)) a' → RInv m w0 F0 ops H K' (fun k => D k ∨ k = i) (obj (H (i + 1)).o) a' := by
  have hcon := con_ready hok h.closed he hni
  have hi : i < ops.size := by
    rcases Nat.lt_or_ge i ops.size with h | h
    · exact h
    · have := he.1; simp [Array.getElem?_eq_none h] at this
  have hD : ∀ k, D k ↔ k < i := fun k => by
    constructor
    · intro hk
      rcases Nat.lt_trichotomy k i with h1 | rfl | h1
      · exact h1
      · exact absurd hk hni
      · have hkl := h.lt k hk
        have hk' : ops[k]? = some ops[k] := Array.getElem?_eq_getElem hkl
        rcases ord hok h.closed he.1 ⟨hk', fun e h6 h7 => h.closed k _ hk' hk e h6 h7⟩ h1 with h2 | h2
        · exact absurd h2 hni
        · rw [hw] at h2; simp at h2
    · intro hk
      have hk' : ops[k]? = some ops[k] := Array.getElem?_eq_getElem (by omega)
      rcases ord hok h.closed hk' he hk with h2 | h2
      · exact h2
      · rw [hw] at h2; simp at h2
  refine ⟨h.full hH hcon.le hD, fun hi' => RInv.ofFull hok hH hi' hi (fun k => by rw [hD]; omega) fun p hp => ?_⟩
  rcases Nat.lt_or_ge i p with h1 | h1
  · exact h1
  · exact absurd (.inr rfl) (hp.hi i h1 ⟨o, he.1, hw⟩)
/-- A draw leaves what is known. -/
theorem Inv.drew {S : St} (h : Inv m w0 F0 K S a) : Inv m w0 F0 { K with w := { K.w with drawn := K.w.drawn + 1 } } S a := by
  have st : Step K S.n (obj S.o) .und [] [] { K with w := { K.w with drawn := K.w.drawn + 1 } } undef := {
    ext := ⟨rfl, fun _ h => h, fun _ _ h => h, fun _ _ => rfl, fun _ cs e fr h => ⟨cs, e, fr, h, rfl⟩⟩
    below := ⟨rfl, rfl, rfl, Nat.le_refl _, fun _ _ => rfl⟩
    val := by simp only [RT]
    new := fun i y h => by simp at h
    dom := fun o s h => .inl h
    F := fun b h => .inl h
    frz := fun o l g e b sh _ h => by simp at h
    place := fun i b sh h => by simp at h
    apart := fun i j b sh sh' h => by simp at h
    kept := .inl fun _ _ => rfl }
  have hoi := OInv.step (fz := []) (nw := []) h.good h.oi (fun o y s h1 _ => h1) (fun _ o y h => h) (fun i hi => by simp at hi) (fun y hy => by simp at hy) (fun p l l' g gen h1 => by simp at h1) st
  exact { h with
    good := h.good.step h.oi.objs st
    below := h.below.trans (st.below.mono (by rw [h.base]; exact Nat.le_refl _))
    tm := fun t => RT.mono st.ext _ _ (h.tm t)
    oi := by
      refine cast (congrArg (OInv _) (funext fun o => ?_)) hoi
      rw [if_neg (by rintro ⟨h1, h2⟩; simp at h2; omega)]
      cases obj S.o o <;> rfl }
theorem wanted_run {S : St} {o : Oper} (hlook : ∀ t ∈ o.looksAt ops, RT K (get S.t t) (a.tmps.getD t undef)) (hw : match o.guard with | none => True | some (g, want) => ∃ d, gtmp ops g = some d ∧ get S.t d = B want) : Region.wanted o (yielded ops a.tmps) = true := by
  cases hg : o.guard with
  | none => simp [Region.wanted, hg]
  | some gw =>
    obtain ⟨g, want⟩ := gw
    rw [hg] at hw
    obtain ⟨d, h1, h2⟩ := hw
    have hv := hlook d (by simp [Oper.looksAt, hg]; right; unfold gtmp at h1; rw [h1])
    rw [h2] at hv
    have hy := yielded_bool (ops := ops) h1 (RT_v hv)
    simp [Region.wanted, hg, hy]
theorem wanted_skip {S : St} {o : Oper} (hlook : ∀ t ∈ o.looksAt ops, RT K (get S.t t) (a.tmps.getD t undef)) (hw : ∃ g want d, o.guard = some (g, want) ∧ gtmp ops g = some d ∧ (get S.t d = .und ∨ get S.t d = B (!want))) : Region.wanted o (yielded ops a.tmps) = false := by
  obtain ⟨g, want, d, hg, h1, h2⟩ := hw
  have hv := hlook d (by simp [Oper.looksAt, hg]; right; unfold gtmp at h1; rw [h1])
  rcases h2 with h2 | h2
  · rw [h2] at hv
    simp only [RT] at hv
    have hy := yielded_und (ops := ops) h1 hv
    simp [Region.wanted, hg, hy]
  · rw [h2] at hv
    have hy := yielded_bool (ops := ops) h1 (RT_v hv)
    simp [Region.wanted, hg, hy]
theorem any_sound (hok : okDraw ops = true) (hH : ∀ i o, ops[i]? = some o → Eff E cl ops (H i) o (H (i + 1))) (hcl : CallOK E.P cl) (hd : ∀ (i : Nat) (o : Oper), ops[i]? = some o → ∀ t, o.dst = some t → t < m) {Q : Exit → Act → World → Prop} (hq : ∀ K' a', Inv m w0 F0 K' (H ops.size) a' → Q .normal a' K'.w) :
    ∀ (fuel : Nat) (listed : Array Bool) {K : Ctx} {D : Nat → Prop} {OB : Nat → Option Ob} {a : Act}, RInv m w0 F0 ops H K D OB a → listed.size = ops.size → (∀ k, listed[k]? = some true ↔ D k) → ((List.range ops.size).filter (fun k => !listed.getD k true)).length ≤ fuel → wpAny E.P .any ops Q fuel listed a K.w := by
  intro fuel
  have getT : ∀ {listed : Array Bool} {k : Nat} (d : Bool), k < listed.size → (listed.getD k d = true ↔ listed[k]? = some true) := fun d hk => by
    rw [Array.getD_eq_getD_getElem?, Array.getElem?_eq_getElem hk]; simp
  have done : ∀ {listed : Array Bool} {K : Ctx} {D : Nat → Prop} {OB : Nat → Option Ob} {a : Act}, RInv m w0 F0 ops H K D OB a → listed.size = ops.size → (∀ k, listed[k]? = some true ↔ D k) → Region.ready .any ops listed = [] → Q .normal a K.w := by
    intro listed K D OB a h hs hl hr
    have all : ∀ k, k < ops.size → D k := by
      intro k
      induction k using Nat.strongRecOn with
      | _ k ih =>
        intro hk
        have hk' : ops[k]? = some ops[k] := Array.getElem?_eq_getElem hk
        rcases Classical.em (D k) with hd | hd
        · exact hd
        · exfalso
          have : k ∈ Region.ready .any ops listed := by
            simp only [Region.ready, List.mem_filter, List.mem_range, Bool.and_eq_true, Bool.not_eq_true']
            refine ⟨hk, ?_, ?_⟩
            · cases hb : listed.getD k true with
              | false => rfl
              | true => exact absurd ((hl k).1 ((getT true (by omega)).1 hb)) hd
            · rw [hk']
              simp only [Option.map_some, Option.getD_some, Array.all_eq_true', Bool.or_eq_true, Bool.not_eq_true']
              intro e he
              cases hb : Region.binds .any e with
              | false => exact .inl rfl
              | true =>
                have hlt := okDraw_down hok k _ hk' e (by simpa using he) hb
                exact .inr ((getT false (by omega)).2 ((hl _).2 (ih _ hlt (by omega))))
          rw [hr] at this; simp at this
    exact hq K a (h.full hH (Nat.le_refl _) fun k => ⟨h.lt k, all k⟩)
  induction fuel with
  | zero =>
    intro listed K D OB a h hs hl hf
    have hr : Region.ready .any ops listed = [] := by
      rw [List.eq_nil_iff_forall_not_mem]
      intro k hk
      simp only [Region.ready, List.mem_filter, Bool.and_eq_true] at hk
      have : k ∈ (List.range ops.size).filter (fun k => !listed.getD k true) := List.mem_filter.2 ⟨hk.1, hk.2.1⟩
      have h0 := List.eq_nil_of_length_eq_zero (Nat.le_zero.1 hf)
      rw [h0] at this; simp at this
    exact ⟨hr, done h hs hl hr⟩
  | succ fuel ih =>
    intro listed K D OB a h hs hl hf
    refine ⟨done h hs hl, fun i hi => ?_⟩
    simp only [Region.ready, List.mem_filter, List.mem_range, Bool.and_eq_true, Bool.not_eq_true'] at hi
    obtain ⟨hilt, hil, hia⟩ := hi
    have hi' : ops[i]? = some ops[i] := Array.getElem?_eq_getElem hilt
    have hni : ¬ D i := fun hd => by
      have := (getT true (by omega)).2 ((hl i).2 hd)
      rw [hil] at this; simp at this
    have he : Enab ops D i ops[i] := ⟨hi', fun e h1 h2 => by
      rw [hi'] at hia
      simp only [Option.map_some, Option.getD_some, Array.all_eq_true', Bool.or_eq_true, Bool.not_eq_true'] at hia
      rcases hia e (by simpa using h1) with h3 | h3
      · rw [h2] at h3; simp at h3
      · have hlt := okDraw_down hok i _ hi' e h1 h2
        exact (hl _).1 ((getT false (by omega)).1 h3)⟩
    have hlook := fun t (ht : t ∈ ops[i].looksAt ops) => h.looks hok hH he hni ht
    -- the next state
    have next : ∀ {K' : Ctx} {OB' : Nat → Option Ob} {a' : Act}, RInv m w0 F0 ops H K' (fun k => D k ∨ k = i) OB' a' → wpAny E.P .any ops Q fuel (listed.setIfInBounds i true) a' K'.w := fun h' => by
      refine ih _ h' (by simpa using hs) (fun k => ?_) ?_
      · rw [Array.getElem?_setIfInBounds]
        split
        · rename_i e; subst e; simp [show i < listed.size by omega]
        · rename_i e; rw [hl k]; exact ⟨.inl, fun h => h.resolve_right fun e' => e e'.symm⟩
      · have hfe : (List.range ops.size).filter (fun k => !(listed.setIfInBounds i true).getD k true) = ((List.range ops.size).filter (fun k => !listed.getD k true)).filter (fun k => decide (k ≠ i)) := by
          rw [List.filter_filter]
          refine List.filter_congr fun k hk => ?_
          rw [Array.getD_eq_getD_getElem?, Array.getD_eq_getD_getElem?, Array.getElem?_setIfInBounds]
          by_cases e : i = k
          · subst e; simp [show i < listed.size by omega]
          · simp [e, Ne.symm e]
        rw [hfe]
        have : (((List.range ops.size).filter (fun k => !listed.getD k true)).filter (fun k => decide (k ≠ i))).length < ((List.range ops.size).filter (fun k => !listed.getD k true)).length :=
          List.length_filter_lt_length_iff_exists.2 ⟨i, List.mem_filter.2 ⟨by simpa using hilt, by simp [hil]⟩, by simp⟩
        omega
    unfold wpOp
    rw [hi']
    simp only
    have hd' := hd i _ hi'
    cases hH i _ hi' with
    | skip hg ho hn hw =>
      rw [if_neg (by rw [wanted_skip hlook hw]; simp)]
      have hnw : isW ops[i].op = true ∨ isW ops[i].op = false := by cases isW ops[i].op <;> simp
      rcases hnw with hW | hW
      · obtain ⟨hinv, hback⟩ := h.stepW hok hH he hni hd' hW
        refine next (hback ?_)
        have := hinv.put ops[i].dst hd' (x := .und) (v := undef) (by simp only [RT])
        exact { this with
          tm := fun t => by rw [hg]; exact this.tm t
          oi := by rw [ho]; exact hinv.oi
          fresh := fun o hh => hinv.fresh o (by omega)
          grp := fun o l g e => by rw [ho, hn]; exact hinv.grp o l g e }
      · obtain ⟨OB', h'⟩ := h.step hok hH he hni hd' hW (x := .und) (nw := []) (val := undef) (Step.same (by simp only [RT])) (fun t => by rw [hg, get_putO]) (fun q => by rw [ho, if_neg (by rintro ⟨h1, h2⟩; simp at h2; omega)]) (by simpa using hn) (fun y hy => by simp at hy) (fun l' g gen h1 => by simp at h1)
        exact next h'
    | run Sg hg ho hn hw hr =>
      rw [if_pos (wanted_run hlook hw)]
      refine .inl ?_
      rcases opA_inv hr with ⟨hW, os, hW1, hS⟩ | ⟨hW, x, nw, hN, hS⟩
      · obtain ⟨hinv, hback⟩ := h.stepW hok hH he hni hd' hW
        have hinvg : Inv m w0 F0 K Sg a := { hinv with
          tm := fun t => by rw [hg]; exact hinv.tm t
          oi := by rw [ho]; exact hinv.oi
          fresh := fun o hh => hinv.fresh o (by omega)
          grp := fun o l g e => by rw [ho, hn]; exact hinv.grp o l g e }
        obtain ⟨K', hrun, hi2⟩ := opW_sound hinvg ops[i] hW1
        unfold Oper.wp
        rw [hrun, Oper.upon_skip]
        exact next (hback (hS ▸ hi2.put ops[i].dst hd' (by simp only [RT])))
      · have hobj : ∀ q y s, obj Sg.o q = some y → K.σ q = some s → RO K s y := fun q y s h1 h2 => h.oi.objs q y s (h.see i (con_ready hok h.closed he hni) q y (by rw [← ho]; exact h1) (by rw [h2]; simp)) h2
        have hfresh : ∀ j, j < nw.length → K.σ (Sg.n + j) = none := fun j hj => h.fresh_at hok hH he hni (by omega) (by rw [hS, putO_n]; show _ < Sg.n + nw.length; omega)
        have hdo := opN_sound hcl h.good hobj ops[i] hfresh (a := a) (fun z hz => RT_ev fun t ht => by rw [hg]; exact hlook t (by
          subst ht
          simp only [Oper.looksAt, List.mem_append, List.mem_filterMap]
          exact .inl ⟨.tmp t, by simpa using hz, rfl⟩)) hN
        refine hdo.wp fun val K' st => ?_
        rw [hn, ho] at st
        obtain ⟨OB', h'⟩ := h.step hok hH he hni hd' hW st (fun t => by rw [hS, get_putO]; show (if _ then x else get Sg.t t) = _; rw [hg]) (fun q => by rw [hS, putO_o, add_o, ho, hn]) (by rw [hS, putO_n]; show Sg.n + nw.length = _; rw [hn]) (opN_live hN) (fun l' g gen h1 h2 => by
          have := opN_tip hN h1 h2
          rw [ho] at this; exact this)
        exact next h'
end
end
end Go.Proofs.Ytnbijiopcgfmfaa.Tev
