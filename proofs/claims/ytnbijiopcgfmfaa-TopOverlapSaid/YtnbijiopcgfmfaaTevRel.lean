/- What a tree stands for in a world; that it goes on to stand for it where the world's old cells stay. -/
import Derived.Test.YtnbijiopcgfmfaaTev
import Derived.Laws.Cells
import Derived.Laws.CopyRow
import Derived.Laws.IdiomCopy
import Derived.Deep.MidRow
import Derived.Calls
namespace Go.Proofs.Ytnbijiopcgfmfaa.Tev
open Go Go.RowKit
set_option linter.unusedSectionVars false
set_option linter.unusedSimpArgs false
set_option linter.unusedVariables false

/-- The world, the blocks that nobody writes any more, where this call's own blocks begin, the names' places. -/
structure Ctx where
  w : World
  F : Nat → Prop
  base : Nat
  σ : Nat → Option (Option (Nat × Nat))

def exact? (cap : Option Nat) (c : Nat) : Prop := ∀ k, cap = some k → c = k

mutual
def RC (w : World) (F : Nat → Prop) : C → Value → Prop
  | .v x, u => u = x ∧ flat x = true
  | .s cap n l, u => ∃ A c, u = .slice A n c ∧ n ≤ c ∧ exact? cap c ∧ ((n = 0 ∧ l = []) ∨ ∃ b o, A = some ⟨b, o, none⟩ ∧ F b ∧ RCs w F b o l)
def RCs (w : World) (F : Nat → Prop) (b : Nat) : Nat → List C → Prop
  | _, [] => True
  | o, x :: l => (∃ u, w.cell? ⟨b, o, none⟩ = some u ∧ RC w F x u) ∧ RCs w F b (o + 1) l
end

def REs (w : World) (F : Nat → Prop) : List (Value × C × Nat) → List MapEntry → Prop
  | [], es => es = []
  | x :: l, es => ∃ e r, es = e :: r ∧ e.key = x.1 ∧ RC w F x.2.1 e.val ∧ e.born = x.2.2 ∧ REs w F l r

def RU (K : Ctx) : U → Value → Prop
  | .c x, u => RC K.w K.F x u
  | .junk, _ => True
  | .tmp cap n l, u => ∃ A c, u = .slice A n c ∧ n ≤ c ∧ exact? cap c ∧ ((n = 0 ∧ l = []) ∨ ∃ b o, A = some ⟨b, o, none⟩ ∧ b < K.base ∧ RCs K.w K.F b o l)
  | .rp p l off, u => ∃ b s, u = .pointer (some ⟨b, s + off, none⟩) ∧ (if p = true then K.F b else b < K.base) ∧ RCs K.w K.F b s l
  | .ms es, u => ∃ b ents cl, u = .map (some b) ∧ b < K.base ∧ K.w.heap[b]? = some (.map ents cl) ∧ REs K.w K.F es ents.toList
def RBs (K : Ctx) (b : Nat) : Nat → List U → Prop
  | _, [] => True
  | o, x :: l => (∃ u, K.w.cell? ⟨b, o, none⟩ = some u ∧ RU K x u) ∧ RBs K b (o + 1) l
mutual
def RT (K : Ctx) : T → Value → Prop
  | .c x, u => RC K.w K.F x u
  | .und, u => u = undef
  | .junk, _ => True
  | .agg l, u => ∃ cs : List Value, u = .agg cs.toArray ∧ RTs K l cs
  | .tup l, u => ∃ cs : List Value, u = .tuple cs.toArray ∧ RTs K l cs
  | .tmp cap n l, u => ∃ A c, u = .slice A n c ∧ n ≤ c ∧ exact? cap c ∧ ((n = 0 ∧ l = []) ∨ ∃ b o, A = some ⟨b, o, none⟩ ∧ b < K.base ∧ RCs K.w K.F b o l)
  | .sl o off n sz cap, u => ∃ A c, u = .slice A n c ∧ n ≤ c ∧ exact? cap c ∧
      ((c = 0 ∧ ∃ s, K.σ o = some s) ∨ ∃ b sh, K.σ o = some (some (b, sh)) ∧ A = some ⟨b, sh + off, none⟩ ∧ ∃ cs e fr, K.w.heap[b]? = some (.cells cs e fr) ∧ sh + off + c * sz ≤ cs.size)
  | .pt o off, u => ∃ b sh, K.σ o = some (some (b, sh)) ∧ u = .pointer (some ⟨b, sh + off, none⟩)
  | .rp p l off, u => ∃ b s, u = .pointer (some ⟨b, s + off, none⟩) ∧ (if p = true then K.F b else b < K.base) ∧ RCs K.w K.F b s l
  | .rb l off, u => ∃ b, u = .pointer (some ⟨b, off, none⟩) ∧ b < K.base ∧ RBs K b 0 l
  | .fn f l, u => ∃ cs : List Value, u = .func (.func f) #[] cs.toArray ∧ RTs K l cs
  | .mp o, u => ∃ b sh, K.σ o = some (some (b, sh)) ∧ u = .map (some b)
  | .ms es, u => ∃ b ents cl, u = .map (some b) ∧ b < K.base ∧ K.w.heap[b]? = some (.map ents cl) ∧ REs K.w K.F es ents.toList
def RTs (K : Ctx) : List T → List Value → Prop
  | [], us => us = []
  | x :: l, us => ∃ u vs, us = u :: vs ∧ RT K x u ∧ RTs K l vs
end
theorem RU_toT {K : Ctx} {x : U} {u : Value} : RT K x.toT u ↔ RU K x u := by cases x <;> simp only [U.toT, RT, RU]

/-- An object and its place. -/
def RO (K : Ctx) (s : Option (Nat × Nat)) : Ob → Prop
  | .box l => ∃ b cs e, s = some (b, 0) ∧ ¬ K.F b ∧ K.base ≤ b ∧ K.w.heap[b]? = some (.cells cs e (0, 0)) ∧ RTs K l cs.toList
  | .arr l _ _ => (s = none ∧ l = []) ∨ ∃ b sh cs e, s = some (b, sh) ∧ ¬ K.F b ∧ K.base ≤ b ∧ K.w.heap[b]? = some (.cells cs e (0, 0)) ∧ RCs K.w K.F b sh l
  | .fz l => (s = none ∧ l = []) ∨ ∃ b sh, s = some (b, sh) ∧ K.F b ∧ RCs K.w K.F b sh l
  | .mp es cl => ∃ b ents, s = some (b, 0) ∧ ¬ K.F b ∧ K.base ≤ b ∧ K.w.heap[b]? = some (.map ents cl) ∧ REs K.w K.F es ents.toList ∧ (∀ x ∈ es, x.2.2 < cl)
  | .dead => True

/-- The old goes on to stand. -/
structure KExt (K K' : Ctx) : Prop where
  base : K'.base = K.base
  F : ∀ b, K.F b → K'.F b
  σ : ∀ o s, K.σ o = some s → K'.σ o = some s
  kept : ∀ b : Nat, K.F b ∨ b < K.base → K'.w.heap[b]? = K.w.heap[b]?
  sizes : ∀ (b : Nat) (cs : Array Value) (e : TypeId) (fr : Nat × Nat), K.w.heap[b]? = some (Obj.cells cs e fr) → ∃ cs' e' fr', K'.w.heap[b]? = some (Obj.cells cs' e' fr') ∧ cs'.size = cs.size

theorem KExt.refl (K : Ctx) : KExt K K := ⟨rfl, fun _ h => h, fun _ _ h => h, fun _ _ => rfl, fun _ cs e fr h => ⟨cs, e, fr, h, rfl⟩⟩
theorem KExt.trans {K K' K'' : Ctx} (h : KExt K K') (g : KExt K' K'') : KExt K K'' :=
  ⟨g.base.trans h.base, fun b hb => g.F b (h.F b hb), fun o s hs => g.σ o s (h.σ o s hs),
   fun b hb => (g.kept b (hb.imp (h.F b) (fun x => by rw [h.base]; exact x))).trans (h.kept b hb),
   fun b cs e fr hh => by
    obtain ⟨cs', e', fr', h1, h2⟩ := h.sizes b cs e fr hh
    obtain ⟨cs'', e'', fr'', h3, h4⟩ := g.sizes b cs' e' fr' h1
    exact ⟨cs'', e'', fr'', h3, h4.trans h2⟩⟩

theorem cell_of_heap {w w' : World} {b : Nat} (h : w'.heap[b]? = w.heap[b]?) (o : Nat) : w'.cell? ⟨b, o, none⟩ = w.cell? ⟨b, o, none⟩ := by
  unfold World.cell?; rw [h]

mutual
theorem RC.mono {w w' : World} {F F' : Nat → Prop} (hF : ∀ b, F b → F' b) (hk : ∀ b : Nat, F b → w'.heap[b]? = w.heap[b]?) : ∀ (x : C) (u : Value), RC w F x u → RC w' F' x u
  | .v x, u, h => by simpa only [RC] using h
  | .s cap n l, u, h => by
    simp only [RC] at h ⊢
    obtain ⟨A, c, h1, h2, h3, h4⟩ := h
    refine ⟨A, c, h1, h2, h3, h4.imp id ?_⟩
    rintro ⟨b, o, e, hb, hl⟩
    exact ⟨b, o, e, hF b hb, RCs.mono hF hk b (hk b hb) o l hl⟩
theorem RCs.mono {w w' : World} {F F' : Nat → Prop} (hF : ∀ b, F b → F' b) (hk : ∀ b : Nat, F b → w'.heap[b]? = w.heap[b]?) (b : Nat) (hb : w'.heap[b]? = w.heap[b]?) : ∀ (o : Nat) (l : List C), RCs w F b o l → RCs w' F' b o l
  | _, [], _ => by simp only [RCs]
  | o, x :: l, h => by
    simp only [RCs] at h ⊢
    obtain ⟨⟨u, h1, h2⟩, h3⟩ := h
    exact ⟨⟨u, (cell_of_heap hb o).trans h1, RC.mono hF hk x u h2⟩, RCs.mono hF hk b hb (o + 1) l h3⟩
end

theorem REs.mono {w w' : World} {F F' : Nat → Prop} (hF : ∀ b, F b → F' b) (hk : ∀ b : Nat, F b → w'.heap[b]? = w.heap[b]?) : ∀ (l : List (Value × C × Nat)) (es : List MapEntry), REs w F l es → REs w' F' l es
  | [], es, h => by simpa only [REs] using h
  | x :: l, es, h => by
    simp only [REs] at h ⊢
    obtain ⟨e, r, h1, h2, h3, h4, h5⟩ := h
    exact ⟨e, r, h1, h2, RC.mono hF hk _ _ h3, h4, REs.mono hF hk l r h5⟩
theorem RU.mono {K K' : Ctx} (h : KExt K K') : ∀ (x : U) (u : Value), RU K x u → RU K' x u
  | .c x, u, r => by simp only [RU] at r ⊢; exact RC.mono h.F (fun b hb => h.kept b (.inl hb)) x u r
  | .junk, u, r => by simp only [RU]
  | .tmp cap n l, u, r => by
    simp only [RU] at r ⊢
    obtain ⟨A, c, h1, h2, h3, h4⟩ := r
    refine ⟨A, c, h1, h2, h3, h4.imp id ?_⟩
    rintro ⟨b, o, e, hb, hl⟩
    exact ⟨b, o, e, by rw [h.base]; exact hb, RCs.mono h.F (fun b hb => h.kept b (.inl hb)) b (h.kept b (.inr hb)) o l hl⟩
  | .rp p l off, u, r => by
    simp only [RU] at r ⊢
    obtain ⟨b, s, h1, h2, h3⟩ := r
    refine ⟨b, s, h1, ?_, ?_⟩
    · cases p <;> simp only [Bool.false_eq_true, if_false, if_true] at h2 ⊢
      · rw [h.base]; exact h2
      · exact h.F b h2
    · refine RCs.mono h.F (fun b hb => h.kept b (.inl hb)) b (h.kept b ?_) s l h3
      cases p <;> simp only [Bool.false_eq_true, if_false, if_true] at h2
      · exact .inr h2
      · exact .inl h2
  | .ms es, u, r => by
    simp only [RU] at r ⊢
    obtain ⟨b, ents, cl, h1, h2, h3, h4⟩ := r
    exact ⟨b, ents, cl, h1, by rw [h.base]; exact h2, (h.kept b (.inr h2)).trans h3, REs.mono h.F (fun b hb => h.kept b (.inl hb)) _ _ h4⟩
theorem RBs.mono {K K' : Ctx} (h : KExt K K') (b : Nat) (hb : K'.w.heap[b]? = K.w.heap[b]?) : ∀ (o : Nat) (l : List U), RBs K b o l → RBs K' b o l
  | _, [], _ => by simp only [RBs]
  | o, x :: l, r => by
    simp only [RBs] at r ⊢
    obtain ⟨⟨u, h1, h2⟩, h3⟩ := r
    exact ⟨⟨u, (cell_of_heap hb o).trans h1, RU.mono h x u h2⟩, RBs.mono h b hb (o + 1) l h3⟩
mutual
theorem RT.mono {K K' : Ctx} (h : KExt K K') : ∀ (x : T) (u : Value), RT K x u → RT K' x u
  | .c x, u, r => by simp only [RT] at r ⊢; exact RC.mono h.F (fun b hb => h.kept b (.inl hb)) x u r
  | .und, u, r => by simpa only [RT] using r
  | .junk, u, r => by simp only [RT]
  | .agg l, u, r => by simp only [RT] at r ⊢; obtain ⟨cs, e, hl⟩ := r; exact ⟨cs, e, RTs.mono h l cs hl⟩
  | .tup l, u, r => by simp only [RT] at r ⊢; obtain ⟨cs, e, hl⟩ := r; exact ⟨cs, e, RTs.mono h l cs hl⟩
  | .tmp cap n l, u, r => by
    simp only [RT] at r ⊢
    obtain ⟨A, c, h1, h2, h3, h4⟩ := r
    refine ⟨A, c, h1, h2, h3, h4.imp id ?_⟩
    rintro ⟨b, o, e, hb, hl⟩
    exact ⟨b, o, e, by rw [h.base]; exact hb, RCs.mono h.F (fun b hb => h.kept b (.inl hb)) b (h.kept b (.inr hb)) o l hl⟩
  | .sl o off n sz cap, u, r => by
    simp only [RT] at r ⊢
    obtain ⟨A, c, h1, h2, h3, h4⟩ := r
    refine ⟨A, c, h1, h2, h3, ?_⟩
    rcases h4 with ⟨h4, s, h5⟩ | ⟨b, sh, h4, h5, cs, e, fr, h6, h7⟩
    · exact .inl ⟨h4, s, h.σ _ _ h5⟩
    · obtain ⟨cs', e', fr', h8, h9⟩ := h.sizes b cs e fr h6
      exact .inr ⟨b, sh, h.σ _ _ h4, h5, cs', e', fr', h8, by omega⟩
  | .pt o off, u, r => by simp only [RT] at r ⊢; obtain ⟨b, sh, h1, h2⟩ := r; exact ⟨b, sh, h.σ _ _ h1, h2⟩
  | .rp p l off, u, r => by
    simp only [RT] at r ⊢
    obtain ⟨b, s, h1, h2, h3⟩ := r
    refine ⟨b, s, h1, ?_, ?_⟩
    · cases p <;> simp only [Bool.false_eq_true, if_false, if_true] at h2 ⊢
      · rw [h.base]; exact h2
      · exact h.F b h2
    · refine RCs.mono h.F (fun b hb => h.kept b (.inl hb)) b (h.kept b ?_) s l h3
      cases p <;> simp only [Bool.false_eq_true, if_false, if_true] at h2
      · exact .inr h2
      · exact .inl h2
  | .rb l off, u, r => by
    simp only [RT] at r ⊢
    obtain ⟨b, h1, h2, h3⟩ := r
    exact ⟨b, h1, by rw [h.base]; exact h2, RBs.mono h b (h.kept b (.inr h2)) 0 l h3⟩
  | .fn f l, u, r => by simp only [RT] at r ⊢; obtain ⟨cs, e, hl⟩ := r; exact ⟨cs, e, RTs.mono h l cs hl⟩
  | .mp o, u, r => by simp only [RT] at r ⊢; obtain ⟨b, sh, h1, h2⟩ := r; exact ⟨b, sh, h.σ _ _ h1, h2⟩
  | .ms es, u, r => by
    simp only [RT] at r ⊢
    obtain ⟨b, ents, cl, h1, h2, h3, h4⟩ := r
    exact ⟨b, ents, cl, h1, by rw [h.base]; exact h2, (h.kept b (.inr h2)).trans h3, REs.mono h.F (fun b hb => h.kept b (.inl hb)) _ _ h4⟩
theorem RTs.mono {K K' : Ctx} (h : KExt K K') : ∀ (l : List T) (us : List Value), RTs K l us → RTs K' l us
  | [], us, r => by simpa only [RTs] using r
  | x :: l, us, r => by
    simp only [RTs] at r ⊢
    obtain ⟨u, vs, e, h1, h2⟩ := r
    exact ⟨u, vs, e, RT.mono h x u h1, RTs.mono h l vs h2⟩
end
/-- An object whose block stays. -/
theorem RO.mono {K K' : Ctx} (h : KExt K K') {s : Option (Nat × Nat)} {x : Ob} (hF : ∀ b sh, s = some (b, sh) → ¬ K.F b → ¬ K'.F b) (hb : ∀ (b sh : Nat), s = some (b, sh) → K'.w.heap[b]? = K.w.heap[b]?) (r : RO K s x) : RO K' s x := by
  cases x with
  | box l =>
    simp only [RO] at r ⊢
    obtain ⟨b, cs, e, h1, h2, h3, h4, h5⟩ := r
    exact ⟨b, cs, e, h1, hF b 0 h1 h2, by rw [h.base]; exact h3, (hb b 0 h1).trans h4, RTs.mono h _ _ h5⟩
  | arr l g gen =>
    simp only [RO] at r ⊢
    refine r.imp id ?_
    rintro ⟨b, sh, cs, e, h1, h2, h3, h4, h5⟩
    exact ⟨b, sh, cs, e, h1, hF b sh h1 h2, by rw [h.base]; exact h3, (hb b sh h1).trans h4, RCs.mono h.F (fun b hb => h.kept b (.inl hb)) b (hb b sh h1) _ _ h5⟩
  | fz l =>
    simp only [RO] at r ⊢
    refine r.imp id ?_
    rintro ⟨b, sh, h1, h2, h3⟩
    exact ⟨b, sh, h1, h.F b h2, RCs.mono h.F (fun b hb => h.kept b (.inl hb)) b (hb b sh h1) _ _ h3⟩
  | mp es cl =>
    simp only [RO] at r ⊢
    obtain ⟨b, ents, h1, h2, h3, h4, h5, h6⟩ := r
    exact ⟨b, ents, h1, hF b 0 h1 h2, by rw [h.base]; exact h3, (hb b 0 h1).trans h4, REs.mono h.F (fun b hb => h.kept b (.inl hb)) _ _ h5, h6⟩
  | dead => simp only [RO]
end Go.Proofs.Ytnbijiopcgfmfaa.Tev
