/- The evaluator without a count of rounds: what it returns for some count. Its own equations, and that it returns what a call returns. -/
import Derived.Test.YtnbijiopcgfmfaaTevFun
namespace Go.Proofs.Ytnbijiopcgfmfaa.Tev
open Go Go.RowKit
set_option linter.unusedSectionVars false
set_option linter.unusedVariables false
set_option linter.unusedSimpArgs false
/-- Some answers of an oracle. -/
structure Ask where
  q : List (FuncId × List T × R)
  l : List (FuncId × Nat × St × (Ex × St))
def Ask.of (A : Ask) (O : Ora) : Prop := (∀ x ∈ A.q, O.call x.1 x.2.1 = some x.2.2) ∧ (∀ x ∈ A.l, O.loop x.1 x.2.1 x.2.2.1 = some x.2.2.2)
def Ask.add (A B : Ask) : Ask := ⟨A.q ++ B.q, A.l ++ B.l⟩
theorem Ask.of_add {A B : Ask} {O : Ora} : (A.add B).of O ↔ A.of O ∧ B.of O := by
  simp only [Ask.of, Ask.add, List.mem_append]
  constructor
  · rintro ⟨h1, h2⟩; exact ⟨⟨fun x h => h1 x (.inl h), fun x h => h2 x (.inl h)⟩, ⟨fun x h => h1 x (.inr h), fun x h => h2 x (.inr h)⟩⟩
  · rintro ⟨⟨h1, h2⟩, h3, h4⟩; exact ⟨fun x h => h.elim (h1 x) (h3 x), fun x h => h.elim (h2 x) (h4 x)⟩
/-- What needs but some answers. -/
def Few {α : Type} (g : Ora → Option α) : Prop := ∀ O r, g O = some r → ∃ A : Ask, A.of O ∧ ∀ O', A.of O' → g O' = some r
theorem Few.const {α : Type} (x : Option α) : Few fun _ => x := fun O r h => ⟨⟨[], []⟩, ⟨fun _ h => by simp at h, fun _ h => by simp at h⟩, fun _ _ => h⟩
theorem Few.bind {α β : Type} {g : Ora → Option α} {k : Ora → α → Option β} (hg : Few g) (hk : ∀ a, Few fun O => k O a) : Few fun O => (g O).bind (k O) := fun O r h => by
  obtain ⟨a, h1, h2⟩ := Option.bind_eq_some_iff.1 h
  obtain ⟨A, a1, a2⟩ := hg O a h1
  obtain ⟨B, b1, b2⟩ := hk a O r h2
  exact ⟨A.add B, Ask.of_add.2 ⟨a1, b1⟩, fun O' h' => by
    have h' := Ask.of_add.1 h'
    show (g O').bind (k O') = _
    rw [a2 O' h'.1]; exact b2 O' h'.2⟩
theorem Few.call (f : FuncId) (xs : List T) : Few fun O => O.call f xs := fun O r h => ⟨⟨[(f, xs, r)], []⟩, ⟨fun x hx => by simp at hx; subst hx; exact h, fun _ h => by simp at h⟩, fun O' h' => h'.1 (f, xs, r) (by simp)⟩
theorem Few.loop (f : FuncId) (id : Nat) (S : St) : Few fun O => O.loop f id S := fun O r h => ⟨⟨[], [(f, id, S, r)]⟩, ⟨fun _ h => by simp at h, fun x hx => by simp at hx; subst hx; exact h⟩, fun O' h' => h'.2 (f, id, S, r) (by simp)⟩
theorem Few.map {α β : Type} {g : Ora → Option α} (k : α → β) (hg : Few g) : Few fun O => (g O).map k := fun O r h => by
  obtain ⟨a, h1, h2⟩ := Option.map_eq_some_iff.1 h
  obtain ⟨A, a1, a2⟩ := hg O a h1
  exact ⟨A, a1, fun O' h' => by show (g O').map k = _; rw [a2 O' h']; exact congrArg some h2⟩
theorem Few.ite {α : Type} (p : Prop) [Decidable p] {g k : Ora → Option α} (hg : Few g) (hk : Few k) : Few fun O => if p then g O else k O := by
  by_cases h : p
  · simpa only [if_pos h] using hg
  · simpa only [if_neg h] using hk
theorem Few.bif {α : Type} (p : Bool) {g k : Ora → Option α} (hg : Few g) (hk : Few k) : Few fun O => bif p then g O else k O := by
  cases p
  · exact hk
  · exact hg
section
variable (E : Env)
theorem callT_few (S : St) (f : T) (xs : List T) : Few fun O => callT O.call S f xs := by
  unfold callT
  split
  · exact (Few.const _).bind fun a => (Few.const _).bind fun c => (Few.call _ _).map _
  · exact .const _
theorem opN_few (S : St) (o : Oper) : Few fun O => opN E O.call S o := by
  obtain ⟨d, op, ty, pos, af, gg⟩ := o
  cases op
  case call c =>
    obtain ⟨cal, args, ats⟩ := c
    cases cal with
    | value f => exact (callT_few S (S.ev f) (args.toList.map S.ev)).map fun x => (x.1, x.2, [])
    | builtin b => exact .const _
    | invoke => exact .const _
  all_goals exact .const _
theorem opA_few (dr : Bool) (S : St) (o : Oper) : Few fun O => opA E O.call dr S o := by
  unfold opA
  split
  · exact .const _
  · exact (opN_few E S o).bind fun r => .const _
theorem opG_few (dr : Bool) (ops : Array Oper) (S : St) (o : Oper) {k : Ora → St → Option St} (hk : ∀ S, Few fun O => k O S) : Few fun O => opG E O.call dr ops S o (k O) := by
  unfold opG
  split
  · exact (opA_few E dr S o).bind hk
  · split
    · exact .const _
    · split
      · exact .bif _ (.bif _ ((opA_few E dr _ o).bind hk) (hk _)) (.bif _ (hk _) ((opA_few E dr _ o).bind hk))
      · exact hk _
      · exact .const _
theorem tops_few (dr : Bool) (ops : Array Oper) : ∀ (l : List Oper) (S : St), Few fun O => tops E O.call dr ops l S
  | [], S => .const _
  | o :: l, S => opG_few E dr ops S o (tops_few dr ops l)
theorem te_few (f : FuncId) : ∀ (c : Code) (S : St), Few fun O => te E O f c S := by
  intro c
  induction c with
  | region id ops dr => intro S; exact (tops_few E dr ops ops.toList _).map _
  | seq a b iha ihb =>
    intro S
    have : (fun O => te E O f (.seq a b) S) = fun O => (te E O f a S).bind fun r => match r with | (.nor, S) => te E O f b S | r => some r := by
      funext O
      simp only [te]
      cases te E O f a S with
      | none => rfl
      | some r => obtain ⟨e, S⟩ := r; cases e <;> rfl
    rw [this]
    refine (iha S).bind fun r => ?_
    obtain ⟨e, S'⟩ := r
    cases e with
    | nor => exact ihb S'
    | _ => exact .const _
  | cond c a b iha ihb =>
    intro S
    simp only [te]
    split
    · rename_i q _
      split
      · cases q <;> simp only [cond_true, cond_false] <;> first | exact iha _ | exact ihb _
      · cases q <;> simp only [cond_true, cond_false] <;> first | exact iha _ | exact ihb _
    · exact .const _
  | block id b ih =>
    intro S
    have : (fun O => te E O f (.block id b) S) = fun O => (te E O f b S).bind fun r => match r with | (.exit i, S) => if i = id then some (.nor, S) else some (.exit i, S) | r => some r := by
      funext O
      simp only [te]
      cases te E O f b S with
      | none => rfl
      | some r => obtain ⟨e, S⟩ := r; cases e <;> rfl
    rw [this]
    exact (ih S).bind fun r => .const _
  | loop b ih => intro S; exact .loop f _ S
  | _ => intro S; exact .const _
theorem runF_few (f : FuncId) (fn : Func) (xs : List T) : Few fun O => runF E O f fn xs := by
  have : (fun O => runF E O f fn xs) = fun O => fn.body.bind fun b => if xs.length ≤ fn.ntmps ∧ okFunc fn = true then (te E O f b ⟨params 0 xs, [], 0⟩).bind fun r => (match r with | (.nor, S) | (.ret, S) => retT E.P fn.results.toList fn.resultTypes.toList S | _ => none) else none := by
    funext O
    unfold runF
    cases fn.body with
    | none => rfl
    | some b =>
      dsimp only [Option.bind]
      split
      · cases te E O f b ⟨params 0 xs, [], 0⟩ with
        | none => rfl
        | some r => obtain ⟨e, S⟩ := r; cases e <;> rfl
      · rfl
  rw [this]
  exact (Few.const _).bind fun b => .ite _ ((te_few E f b _).bind fun r => .const _) (.const _)
theorem runL_few (f id : Nat) {again : Ora → St → Option (Ex × St)} (ha : ∀ S, Few fun O => again O S) (S : St) : Few fun O => runL E O f id (again O) S := by
  have : (fun O => runL E O f id (again O) S) = fun O => (focus (E.kp f id).1 (prep (E.own f id) S)).bind fun S => ((E.P.funcs[f]?).bind fun fn => fn.body.bind (findLoop id)).bind fun b => (te E O f b S).bind fun r => match r with
      | (.nor, S) => again O S
      | (.exit i, S) => (focus (E.kp f id).2 S).map fun S => (.exit i, S)
      | (.ret, S) => (focus (E.kr f) S).map fun S => (.ret, S) := by
    funext O
    unfold runL
    congr 1; funext S; congr 1; funext b
    cases te E O f b S with
    | none => rfl
    | some r => obtain ⟨e, S⟩ := r; cases e <;> rfl
  rw [this]
  refine (Few.const _).bind fun S => (Few.const _).bind fun b => (te_few E f b S).bind fun r => ?_
  obtain ⟨e, S'⟩ := r
  cases e with
  | nor => exact ha S'
  | _ => exact .const _
end
section
variable {E : Env} {pr : FuncId → List T → Option R}
def Le (O O' : Ora) : Prop := (∀ f xs r, O.call f xs = some r → O'.call f xs = some r) ∧ (∀ f id S r, O.loop f id S = some r → O'.loop f id S = some r)
theorem Few.le {α : Type} {g : Ora → Option α} (h : Few g) {O O' : Ora} (hl : Le O O') {r : α} (hr : g O = some r) : g O' = some r := by
  obtain ⟨A, a1, a2⟩ := h O r hr
  exact a2 O' ⟨fun x hx => hl.1 _ _ _ (a1.1 x hx), fun x hx => hl.2 _ _ _ _ (a1.2 x hx)⟩
theorem ora_le1 : ∀ n, Le (ora E pr n) (ora E pr (n + 1))
  | 0 => ⟨fun f xs r h => by simp [ora] at h, fun f id S r h => by simp [ora] at h⟩
  | n + 1 => by
    have ih := ora_le1 n
    refine ⟨fun f xs r h => ?_, fun f id S r h => ?_⟩
    · rw [ora] at h ⊢
      dsimp only at h ⊢
      cases h1 : pr f xs with
      | some r' => rw [h1] at h; exact h
      | none =>
        rw [h1] at h
        obtain ⟨fn, h2, h3⟩ := Option.bind_eq_some_iff.1 h
        show (E.P.funcs[f]?).bind _ = _
        rw [h2]
        exact (runF_few E f fn xs).le ih h3
    · rw [ora] at h ⊢
      dsimp only at h ⊢
      exact (runL_few E f id (again := fun O => O.loop f id) (fun S => .loop f id S) S).le ih h
theorem ora_le {m n : Nat} (h : m ≤ n) : Le (ora E pr m) (ora E pr n) := by
  induction h with
  | refl => exact ⟨fun _ _ _ h => h, fun _ _ _ _ h => h⟩
  | step _ ih => exact ⟨fun f xs r h => (ora_le1 _).1 _ _ _ (ih.1 f xs r h), fun f id S r h => (ora_le1 _).2 _ _ _ _ (ih.2 f id S r h)⟩
open Classical in
noncomputable def lim (E : Env) (pr : FuncId → List T → Option R) : Ora :=
  ⟨fun f xs => if h : ∃ r, ∃ n, (ora E pr n).call f xs = some r then some (Classical.choose h) else none,
   fun f id S => if h : ∃ r, ∃ n, (ora E pr n).loop f id S = some r then some (Classical.choose h) else none⟩
theorem lim_call {f : FuncId} {xs : List T} {r : R} : (lim E pr).call f xs = some r ↔ ∃ n, (ora E pr n).call f xs = some r := by
  unfold lim
  dsimp only
  constructor
  · intro h
    split at h
    · rename_i hh; obtain rfl := Option.some.inj h; exact Classical.choose_spec hh
    · simp at h
  · intro h
    have hh : ∃ r, ∃ n, (ora E pr n).call f xs = some r := ⟨r, h⟩
    rw [dif_pos hh]
    obtain ⟨n, hn⟩ := h
    obtain ⟨k, hk⟩ := Classical.choose_spec hh
    have h1 := (ora_le (Nat.le_max_left n k)).1 _ _ _ hn
    have h2 := (ora_le (Nat.le_max_right n k)).1 _ _ _ hk
    rw [h1] at h2; exact h2.symm
theorem lim_loop {f : FuncId} {id : Nat} {S : St} {r : Ex × St} : (lim E pr).loop f id S = some r ↔ ∃ n, (ora E pr n).loop f id S = some r := by
  unfold lim
  dsimp only
  constructor
  · intro h
    split at h
    · rename_i hh; obtain rfl := Option.some.inj h; exact Classical.choose_spec hh
    · simp at h
  · intro h
    have hh : ∃ r, ∃ n, (ora E pr n).loop f id S = some r := ⟨r, h⟩
    rw [dif_pos hh]
    obtain ⟨n, hn⟩ := h
    obtain ⟨k, hk⟩ := Classical.choose_spec hh
    have h1 := (ora_le (Nat.le_max_left n k)).2 _ _ _ _ hn
    have h2 := (ora_le (Nat.le_max_right n k)).2 _ _ _ _ hk
    rw [h1] at h2; exact h2.symm
theorem lim_ask {A : Ask} (h : A.of (lim E pr)) : ∃ n, A.of (ora E pr n) := by
  obtain ⟨q, l⟩ := A
  have hq : ∃ n, ∀ x ∈ q, (ora E pr n).call x.1 x.2.1 = some x.2.2 := by
    have := h.1
    dsimp only at this
    clear h
    induction q with
    | nil => exact ⟨0, fun x h => by simp at h⟩
    | cons x q ih =>
      obtain ⟨n, hn⟩ := ih fun y hy => this y (by simp [hy])
      obtain ⟨k, hk⟩ := lim_call.1 (this x (by simp))
      refine ⟨max n k, fun y hy => ?_⟩
      rcases List.mem_cons.1 hy with rfl | hy
      · exact (ora_le (Nat.le_max_right n k)).1 _ _ _ hk
      · exact (ora_le (Nat.le_max_left n k)).1 _ _ _ (hn y hy)
  have hl : ∃ n, ∀ x ∈ l, (ora E pr n).loop x.1 x.2.1 x.2.2.1 = some x.2.2.2 := by
    have := h.2
    dsimp only at this
    clear h hq
    induction l with
    | nil => exact ⟨0, fun x h => by simp at h⟩
    | cons x q ih =>
      obtain ⟨n, hn⟩ := ih fun y hy => this y (by simp [hy])
      obtain ⟨k, hk⟩ := lim_loop.1 (this x (by simp))
      refine ⟨max n k, fun y hy => ?_⟩
      rcases List.mem_cons.1 hy with rfl | hy
      · exact (ora_le (Nat.le_max_right n k)).2 _ _ _ _ hk
      · exact (ora_le (Nat.le_max_left n k)).2 _ _ _ _ (hn y hy)
  obtain ⟨n, hn⟩ := hq
  obtain ⟨k, hk⟩ := hl
  exact ⟨max n k, fun x hx => (ora_le (Nat.le_max_left n k)).1 _ _ _ (hn x hx), fun x hx => (ora_le (Nat.le_max_right n k)).2 _ _ _ _ (hk x hx)⟩
theorem Few.lim {α : Type} {g : Ora → Option α} (h : Few g) {r : α} (hr : g (Tev.lim E pr) = some r) : ∃ n, g (ora E pr n) = some r := by
  obtain ⟨A, a1, a2⟩ := h _ r hr
  obtain ⟨n, hn⟩ := lim_ask a1
  exact ⟨n, a2 _ hn⟩
/-- A function's answer. -/
theorem lim_fun {f : FuncId} {fn : Func} {xs : List T} {r : R} (hf : E.P.funcs[f]? = some fn) (hp : pr f xs = none) (h : runF E (lim E pr) f fn xs = some r) : (lim E pr).call f xs = some r := by
  obtain ⟨n, hn⟩ := (runF_few E f fn xs).lim h
  refine lim_call.2 ⟨n + 1, ?_⟩
  rw [ora]; dsimp only; rw [hp]; dsimp only; rw [hf]; exact hn
theorem lim_pr {f : FuncId} {xs : List T} {r : R} (hp : pr f xs = some r) : (lim E pr).call f xs = some r :=
  lim_call.2 ⟨1, by rw [ora]; dsimp only; rw [hp]⟩
/-- A loop's. -/
theorem lim_round {f id : Nat} {S : St} {r : Ex × St} (h : runL E (lim E pr) f id ((lim E pr).loop f id) S = some r) : (lim E pr).loop f id S = some r := by
  obtain ⟨n, hn⟩ := (runL_few E f id (again := fun O => O.loop f id) (fun S => .loop f id S) S).lim h
  exact lim_loop.2 ⟨n + 1, by rw [ora]; exact hn⟩
theorem lim_sound (hm : E.P.follows .mixedOrders = true) (hpr : CallOK E.P pr) : CallOK E.P (lim E pr).call := by
  intro f ts r h
  obtain ⟨n, hn⟩ := lim_call.1 h
  exact ora_sound hm hpr n f ts r hn
end
end Go.Proofs.Ytnbijiopcgfmfaa.Tev
