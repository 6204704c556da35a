/- Each operation that writes nothing old does in the world what the evaluator says of it. -/
import Derived.Test.YtnbijiopcgfmfaaTevRel
import Derived.Laws.Sem
namespace Go.Proofs.Ytnbijiopcgfmfaa.Tev
open Go Go.RowKit
set_option linter.unusedSectionVars false
set_option linter.unusedVariables false
set_option linter.unusedSimpArgs false

/-- What an operation has done: a value, new objects, blocks that are not written any more. wr: the one old block that has grown, and from where on. -/
structure Step (K : Ctx) (n : Nat) (ob : Nat → Option Ob) (x : T) (nw : List Ob) (fz : List Nat) (K' : Ctx) (val : Value) : Prop where
  ext : KExt K K'
  below : Below K.base K.w K'.w
  val : RT K' x val
  new : ∀ i y, nw[i]? = some y → ∃ s, K'.σ (n + i) = some s ∧ RO K' s y
  dom : ∀ o s, K'.σ o = some s → K.σ o = some s ∨ ∃ i, i < nw.length ∧ o = n + i
  F : ∀ b, K'.F b → K.F b ∨ (K.w.heap.size ≤ b ∧ b < K'.w.heap.size) ∨ ∃ o l g e sh, ob o = some (.arr l g e) ∧ g ∈ fz ∧ K.σ o = some (some (b, sh))
  frz : ∀ o l g e b sh, ob o = some (.arr l g e) → g ∈ fz → K.σ o = some (some (b, sh)) → K'.F b
  place : ∀ i b sh, i < nw.length → K'.σ (n + i) = some (some (b, sh)) → (K.w.heap.size ≤ b ∧ ¬ K'.F b) ∨
    ∃ o l l' g gen, fz = [] ∧ nw = [.arr l' g (gen + 1)] ∧ ob o = some (.arr l g gen) ∧ 0 < gen ∧ K.σ o = some (some (b, sh)) ∧ l.length ≤ l'.length
  apart : ∀ i j b sh sh', i < nw.length → j < nw.length → K'.σ (n + i) = some (some (b, sh)) → K'.σ (n + j) = some (some (b, sh')) → i = j
  kept : (∀ b, b < K.w.heap.size → K'.w.heap[b]? = K.w.heap[b]?) ∨
    ∃ o l l' g gen b sh cs cs' e, fz = [] ∧ nw = [.arr l' g (gen + 1)] ∧ ob o = some (.arr l g gen) ∧ 0 < gen ∧ K.σ o = some (some (b, sh)) ∧
      (∀ c, c < K.w.heap.size → c ≠ b → K'.w.heap[c]? = K.w.heap[c]?) ∧ K.w.heap[b]? = some (.cells cs e (0, 0)) ∧ K'.w.heap[b]? = some (.cells cs' e (0, 0)) ∧
      (∀ i, i < sh + l.length → cs'[i]? = cs[i]?)

theorem Step.same {K : Ctx} {n : Nat} {ob : Nat → Option Ob} {x : T} {val : Value} (h : RT K x val) : Step K n ob x [] [] K val where
  ext := .refl K
  below := Below.refl _ _
  val := h
  new := fun i y h => by simp at h
  dom := fun o s h => .inl h
  F := fun b h => .inl h
  frz := fun o l g e b sh _ h => by simp at h
  place := fun i b sh h => by simp at h
  apart := fun i j b sh sh' h => by simp at h
  kept := .inl fun b _ => rfl

/-- The operation runs to a value, or into a call that comes back. -/
def Does (P : Program) (K : Ctx) (n : Nat) (ob : Nat → Option Ob) (a : Act) (o : Oper) (x : T) (nw : List Ob) (fz : List Nat) : Prop :=
  (∃ val K', (execOp a.eval o).run P K.w = .ok (.value val) K'.w ∧ Step K n ob x nw fz K' val) ∨
  (∃ f args, (execOp a.eval o).run P K.w = .ok (.enter f args) K.w ∧
    Calls P f args K.w fun e w' => ∃ val K', e = .returned val ∧ K'.w = w' ∧ Step K n ob x nw fz K' val)

theorem Does.wp {P : Program} {K : Ctx} {n : Nat} {ob : Nat → Option Ob} {a : Act} {o : Oper} {x : T} {nw : List Ob} {fz : List Nat} {next : Act → World → Prop} {Q : Exit → Act → World → Prop}
    (h : Does P K n ob a o x nw fz) (hn : ∀ val K', Step K n ob x nw fz K' val → next (a.put o.dst val) K'.w) : o.wp P a K.w next Q := by
  unfold Oper.wp
  rcases h with ⟨val, K', hr, hs⟩ | ⟨f, args, hr, hc⟩
  · rw [hr]; exact hn val K' hs
  · rw [hr, Oper.upon_enter]
    refine hc.mono ?_
    rintro e w' ⟨val, K', rfl, rfl, hs⟩
    exact hn val K' hs

theorem peel_run {P : Program} {α : Type} : ∀ (e : Sem α) (v : α), peel P e = some v → ∀ w, e.run P w = .ok v w
  | .pure a, v, h, w => by simp only [peel] at h; obtain rfl := Option.some.inj h; rfl
  | .program k, v, h, w => by simp only [peel] at h; exact peel_run (k P) v h w
  | .mark m k, v, h, w => by simp only [peel] at h; exact peel_run k v h w
  | .load .., v, h, w => by simp [peel] at h
  | .store .., v, h, w => by simp [peel] at h
  | .new .., v, h, w => by simp [peel] at h
  | .shape .., v, h, w => by simp [peel] at h
  | .freeze .., v, h, w => by simp [peel] at h
  | .frozen .., v, h, w => by simp [peel] at h
  | .getObj .., v, h, w => by simp [peel] at h
  | .setObj .., v, h, w => by simp [peel] at h
  | .choose .., v, h, w => by simp [peel] at h
  | .sys .., v, h, w => by simp [peel] at h
  | .halt .., v, h, w => by simp [peel] at h

theorem RT_cellT (K : Ctx) (v : Value) : RT K (cellT v) v := by
  unfold cellT
  split
  · simp only [RT, RC]; exact ⟨none, 0, rfl, Nat.le_refl _, fun k h => by cases h; rfl, .inl ⟨trivial, trivial⟩⟩
  · simp [RT, RC, flat]
  · simp [RT, RC, flat]
  · simp [RT, RC, flat]
  · simp [RT, RC, flat]
  · simp only [RT]
theorem RTs_cellT (K : Ctx) : ∀ l : List Value, RTs K (l.map cellT) l
  | [] => by simp only [List.map_nil, RTs]
  | v :: l => by simp only [List.map_cons, RTs]; exact ⟨v, l, rfl, RT_cellT K v, RTs_cellT K l⟩
theorem RT_constT (K : Ctx) (v : Value) : RT K (constT v) v := by
  unfold constT
  split
  · rename_i cs
    simp only [RT]
    exact ⟨cs.toList, by simp, RTs_cellT K _⟩
  · exact RT_cellT K v
/-- What a temporary holds, all are told. -/
theorem RT_ev {K : Ctx} {S : St} {a : Act} {x : Operand} (h : ∀ t, x = .tmp t → RT K (get S.t t) (a.tmps.getD t undef)) : RT K (S.ev x) (a.eval x) := by
  cases x with
  | tmp t => exact h t rfl
  | const v => exact RT_constT K v
  | global g => simp only [St.ev, RT]
  | func f => simp only [St.ev, Act.eval, RT]; exact ⟨[], rfl, by simp only [RTs]⟩

theorem RT_int {K : Ctx} {k : IntKind} {n : Int} {u : Value} (h : RT K (.c (.v (.int k n))) u) : u = .int k n := by simp only [RT, RC] at h; exact h.1
theorem RT_v {K : Ctx} {v u : Value} (h : RT K (.c (.v v)) u) : u = v := by simp only [RT, RC] at h; exact h.1
theorem RT_ofV {K : Ctx} {v : Value} {x : T} (h : ofV v = some x) : RT K x v := by
  unfold ofV at h
  split at h
  · rename_i hf; obtain rfl := Option.some.inj h; simp only [RT, RC]; exact ⟨trivial, hf⟩
  · simp at h

theorem RTs_length {K : Ctx} : ∀ (l : List T) (us : List Value), RTs K l us → us.length = l.length
  | [], us, h => by simp only [RTs] at h; subst h; rfl
  | x :: l, us, h => by simp only [RTs] at h; obtain ⟨u, vs, rfl, _, h2⟩ := h; simp [RTs_length l vs h2]
theorem RTs_get {K : Ctx} : ∀ (l : List T) (us : List Value) (i : Nat) (x : T), RTs K l us → l[i]? = some x → ∃ u, us[i]? = some u ∧ RT K x u
  | [], us, i, x, h, hi => by simp at hi
  | y :: l, us, i, x, h, hi => by
    simp only [RTs] at h
    obtain ⟨u, vs, rfl, h1, h2⟩ := h
    cases i with
    | zero => simp at hi; subst hi; exact ⟨u, rfl, h1⟩
    | succ i => simp at hi; simpa using RTs_get l vs i x h2 hi
theorem RTs_mk {K : Ctx} : ∀ (l : List T) (us : List Value), us.length = l.length → (∀ (i : Nat) (x : T) (u : Value), l[i]? = some x → us[i]? = some u → RT K x u) → RTs K l us
  | [], us, h, _ => by simp only [RTs]; exact List.length_eq_zero_iff.1 h
  | x :: l, us, h, hh => by
    cases us with
    | nil => simp at h
    | cons u us =>
      simp only [RTs]
      exact ⟨u, us, rfl, hh 0 x u rfl rfl, RTs_mk l us (by simpa using h) fun i y v hy hv => hh (i + 1) y v (by simpa using hy) (by simpa using hv)⟩
theorem RTs_append {K : Ctx} {l l' : List T} {us us' : List Value} (h : RTs K l us) (h' : RTs K l' us') : RTs K (l ++ l') (us ++ us') := by
  refine RTs_mk _ _ (by simp [RTs_length _ _ h, RTs_length _ _ h']) fun i x u hx hu => ?_
  have hl := RTs_length _ _ h
  by_cases hi : i < l.length
  · rw [List.getElem?_append_left hi] at hx
    rw [List.getElem?_append_left (by omega)] at hu
    obtain ⟨v, hv, r⟩ := RTs_get _ _ i x h hx
    rw [hv] at hu; obtain rfl := Option.some.inj hu; exact r
  · rw [List.getElem?_append_right (by omega)] at hx
    rw [List.getElem?_append_right (by omega)] at hu
    obtain ⟨v, hv, r⟩ := RTs_get _ _ _ x h' hx
    rw [hl] at hu
    rw [hv] at hu; obtain rfl := Option.some.inj hu; exact r
theorem RTs_take {K : Ctx} {l : List T} {us : List Value} (h : RTs K l us) (n : Nat) : RTs K (l.take n) (us.take n) := by
  have hl := RTs_length _ _ h
  refine RTs_mk _ _ (by simp [hl]) fun i x u hx hu => ?_
  rw [List.getElem?_take] at hx hu
  split at hx
  · rename_i hi
    rw [if_pos hi] at hu
    obtain ⟨v, hv, r⟩ := RTs_get _ _ i x h hx
    rw [hv] at hu; obtain rfl := Option.some.inj hu; exact r
  · simp at hx
theorem RTs_drop {K : Ctx} {l : List T} {us : List Value} (h : RTs K l us) (n : Nat) : RTs K (l.drop n) (us.drop n) := by
  have hl := RTs_length _ _ h
  refine RTs_mk _ _ (by simp [hl]) fun i x u hx hu => ?_
  rw [List.getElem?_drop] at hx hu
  obtain ⟨v, hv, r⟩ := RTs_get _ _ _ x h hx
  rw [hv] at hu; obtain rfl := Option.some.inj hu; exact r
theorem RTs_splice {K : Ctx} {l v : List T} {us vs : List Value} (h : RTs K l us) (h' : RTs K v vs) (off : Nat) : RTs K (splice l off v) (splice us off vs) := by
  unfold splice
  rw [RTs_length _ _ h']
  exact RTs_append (RTs_append (RTs_take h off) h') (RTs_drop h _)

theorem cellsOf_sound {K : Ctx} {x : T} {l : List T} {u : Value} (h : cellsOf x = some l) (r : RT K x u) : RTs K l u.cells.toList := by
  have one : u.cells = #[u] → [x] = l → RTs K l u.cells.toList := fun e e' => by
    subst e'; rw [e]; simp only [RTs]; exact ⟨u, [], rfl, r, rfl⟩
  cases x with
  | agg l' =>
    simp only [cellsOf, Option.some.injEq] at h; subst h
    simp only [RT] at r; obtain ⟨cs, rfl, hl⟩ := r; simpa [Value.cells] using hl
  | junk => simp [cellsOf] at h
  | und => simp [cellsOf] at h
  | tup => simp [cellsOf] at h
  | c y =>
    simp only [cellsOf, Option.some.injEq] at h
    refine one ?_ h
    cases y with
    | v v => simp only [RT, RC] at r; obtain ⟨rfl, hf⟩ := r; cases u <;> first | rfl | (simp [flat] at hf)
    | s => simp only [RT, RC] at r; obtain ⟨A, c, rfl, _⟩ := r; rfl
  | tmp => simp only [cellsOf, Option.some.injEq] at h; simp only [RT] at r; obtain ⟨A, c, rfl, _⟩ := id r; exact one rfl h
  | sl => simp only [cellsOf, Option.some.injEq] at h; simp only [RT] at r; obtain ⟨A, c, rfl, _⟩ := id r; exact one rfl h
  | pt => simp only [cellsOf, Option.some.injEq] at h; simp only [RT] at r; obtain ⟨b, sh, _, rfl⟩ := id r; exact one rfl h
  | rp => simp only [cellsOf, Option.some.injEq] at h; simp only [RT] at r; obtain ⟨b, sh, rfl, _⟩ := id r; exact one rfl h
  | rb => simp only [cellsOf, Option.some.injEq] at h; simp only [RT] at r; obtain ⟨b, rfl, _⟩ := id r; exact one rfl h
  | fn => simp only [cellsOf, Option.some.injEq] at h; simp only [RT] at r; obtain ⟨b, rfl, _⟩ := id r; exact one rfl h
  | mp => simp only [cellsOf, Option.some.injEq] at h; simp only [RT] at r; obtain ⟨b, sh, _, rfl⟩ := id r; exact one rfl h
  | ms => simp only [cellsOf, Option.some.injEq] at h; simp only [RT] at r; obtain ⟨b, _, _, rfl, _⟩ := id r; exact one rfl h

/-! A new block. -/
def Ctx.alloc (K : Ctx) (n : Nat) (o : Obj) : Ctx := { K with w := K.w.alloc o, σ := fun m => if m = n then some (some (K.w.heap.size, 0)) else K.σ m }
theorem heap_alloc_lt (w : World) (o : Obj) (b : Nat) (h : b < w.heap.size) : (w.alloc o).heap[b]? = w.heap[b]? := Below.heap_alloc w o b h
theorem heap_alloc_new (w : World) (o : Obj) : (w.alloc o).heap[w.heap.size]? = some o := by show (w.heap.push o)[w.heap.size]? = some o; simp
theorem heap_lt {w : World} {b : Nat} {o : Obj} (h : w.heap[b]? = some o) : b < w.heap.size := by
  rcases Nat.lt_or_ge b w.heap.size with h' | h'
  · exact h'
  · simp [Array.getElem?_eq_none h'] at h
structure Good (K : Ctx) : Prop where
  F : ∀ b, K.F b → b < K.w.heap.size
  base : K.base ≤ K.w.heap.size
theorem KExt.alloc {K : Ctx} (hg : Good K) (n : Nat) (o : Obj) (hn : K.σ n = none) : KExt K (K.alloc n o) where
  base := rfl
  F := fun b h => h
  σ := fun m s h => by
    show (if m = n then _ else K.σ m) = _
    split
    · rename_i e; subst e; rw [hn] at h; simp at h
    · exact h
  kept := fun b h => heap_alloc_lt _ _ _ (h.elim (hg.F b) fun h => Nat.lt_of_lt_of_le h hg.base)
  sizes := fun b cs e fr h => ⟨cs, e, fr, (heap_alloc_lt _ _ _ (heap_lt h)).trans h, rfl⟩
theorem Step.alloc {K : Ctx} (hg : Good K) {n : Nat} {ob : Nat → Option Ob} (hn : K.σ n = none) (o : Obj) {x : T} {y : Ob} {val : Value}
    (hx : RT (K.alloc n o) x val) (hy : RO (K.alloc n o) (some (K.w.heap.size, 0)) y) : Step K n ob x [y] [] (K.alloc n o) val where
  ext := .alloc hg n o hn
  below := (Below.refl _ _).alloc hg.base o
  val := hx
  new := fun i z h => by
    cases i with
    | zero => simp at h; subst h; exact ⟨_, by simp [Ctx.alloc], hy⟩
    | succ i => simp at h
  dom := fun m s h => by
    have h' : (if m = n then some (some (K.w.heap.size, 0)) else K.σ m) = some s := h
    split at h'
    · rename_i e; exact .inr ⟨0, by simp, by simpa using e⟩
    · exact .inl h'
  F := fun b h => .inl h
  frz := fun o l g e b sh _ h => by simp at h
  place := fun i b sh hi h => by
    have : i = 0 := by simp at hi; omega
    subst this
    simp [Ctx.alloc] at h
    exact .inl ⟨by omega, fun hf => by have := hg.F b hf; omega⟩
  apart := fun i j b sh sh' hi hj _ _ => by simp at hi hj; omega
  kept := .inl fun b hb => heap_alloc_lt _ _ _ hb
theorem Good.alloc {K : Ctx} (hg : Good K) (n : Nat) (o : Obj) : Good (K.alloc n o) :=
  ⟨fun b h => Nat.lt_of_lt_of_le (hg.F b h) (by simp [Ctx.alloc]), Nat.le_trans hg.base (by simp [Ctx.alloc])⟩
theorem Step.box {K : Ctx} (hg : Good K) {n : Nat} {ob : Nat → Option Ob} (hn : K.σ n = none) {l : List T} {cs : Array Value} (t : TypeId) (h : RTs K l cs.toList) :
    Step K n ob (.pt n 0) [.box l] [] (K.alloc n (.cells cs t)) (.pointer (some ⟨K.w.heap.size, 0, none⟩)) := by
  refine .alloc hg hn _ ?_ ?_
  · simp only [RT]; exact ⟨_, 0, by simp [Ctx.alloc], rfl⟩
  · simp only [RO]
    exact ⟨_, cs, t, rfl, fun hf => by have := hg.F _ hf; omega, hg.base, heap_alloc_new _ _, RTs.mono (.alloc hg n _ hn) _ _ h⟩
/-- A row out of cells. -/
theorem RCs_mk {w : World} {F : Nat → Prop} {b : Nat} {cs : Array Value} {e : TypeId} {fr : Nat × Nat} (hb : w.heap[b]? = some (.cells cs e fr)) : ∀ (o : Nat) (l : List C),
    (∀ i x, l[i]? = some x → ∃ u, cs[o + i]? = some u ∧ RC w F x u) → RCs w F b o l
  | _, [], _ => by simp only [RCs]
  | o, x :: l, h => by
    simp only [RCs]
    obtain ⟨u, h1, h2⟩ := h 0 x rfl
    exact ⟨⟨u, by simp [World.cell?, hb]; simpa using h1, h2⟩, RCs_mk hb (o + 1) l fun i y hy => by simpa [Nat.add_assoc, Nat.add_comm 1] using h (i + 1) y (by simpa using hy)⟩
theorem RCs_get {w : World} {F : Nat → Prop} {b : Nat} : ∀ (o : Nat) (l : List C) (i : Nat) (x : C), RCs w F b o l → l[i]? = some x → ∃ u, w.cell? ⟨b, o + i, none⟩ = some u ∧ RC w F x u
  | _, [], i, x, h, hi => by simp at hi
  | o, y :: l, i, x, h, hi => by
    simp only [RCs] at h
    cases i with
    | zero => simp at hi; subst hi; exact h.1
    | succ i =>
      simp at hi
      obtain ⟨u, h1, h2⟩ := RCs_get (o + 1) l i x h.2 hi
      exact ⟨u, by rw [← h1, show o + (i + 1) = o + 1 + i by omega], h2⟩
theorem RCs_of_get {w : World} {F : Nat → Prop} {b : Nat} : ∀ (o : Nat) (l : List C), (∀ i x, l[i]? = some x → ∃ u, w.cell? ⟨b, o + i, none⟩ = some u ∧ RC w F x u) → RCs w F b o l
  | _, [], _ => by simp only [RCs]
  | o, x :: l, h => by
    simp only [RCs]
    exact ⟨by simpa using h 0 x rfl, RCs_of_get (o + 1) l fun i y hy => by simpa [Nat.add_assoc, Nat.add_comm 1] using h (i + 1) y (by simpa using hy)⟩
theorem RCs_row {w : World} {F : Nat → Prop} {b o : Nat} {l : List C} (h : RCs w F b o l) (off k : Nat) : RCs w F b (o + off) (rowAt l off k) := by
  refine RCs_of_get _ _ fun i x hx => ?_
  unfold rowAt at hx
  rw [List.getElem?_take] at hx
  split at hx
  · rw [List.getElem?_drop] at hx
    obtain ⟨u, h1, h2⟩ := RCs_get _ _ _ _ h hx
    exact ⟨u, by rw [← h1, Nat.add_assoc], h2⟩
  · simp at hx
end Go.Proofs.Ytnbijiopcgfmfaa.Tev
