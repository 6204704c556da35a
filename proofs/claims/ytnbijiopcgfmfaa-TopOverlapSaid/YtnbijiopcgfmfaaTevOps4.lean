/- Rows that are made, maps, and what is asked of them. -/
import Derived.Test.YtnbijiopcgfmfaaTevOps3
import Derived.Laws.Tables
namespace Go.Proofs.Ytnbijiopcgfmfaa.Tev
open Go Go.RowKit
set_option linter.unusedSectionVars false
set_option linter.unusedVariables false
set_option linter.unusedSimpArgs false

/-! Freezing. -/
def frzF (K : Ctx) (ob : Nat → Option Ob) (fz : List Nat) : Nat → Prop := fun b => K.F b ∨ ∃ o l g e sh, ob o = some (.arr l g e) ∧ g ∈ fz ∧ K.σ o = some (some (b, sh))
def Ctx.frz (K : Ctx) (ob : Nat → Option Ob) (fz : List Nat) : Ctx := { K with F := frzF K ob fz }

section
variable {P : Program} {K : Ctx} {n : Nat} {ob : Nat → Option Ob} {a : Act}
theorem KExt.frz (fz : List Nat) : KExt K (K.frz ob fz) := ⟨rfl, fun _ h => .inl h, fun _ _ h => h, fun _ _ => rfl, fun _ cs e fr h => ⟨cs, e, fr, h, rfl⟩⟩
theorem Good.frz (hg : Good K) (hobj : ∀ o x s, ob o = some x → K.σ o = some s → RO K s x) (fz : List Nat) : Good (K.frz ob fz) := by
  refine ⟨fun b h => ?_, hg.base⟩
  rcases h with h | ⟨o, l, g, e, sh, h1, _, h3⟩
  · exact hg.F b h
  · have := hobj _ _ _ h1 h3
    simp only [RO] at this
    rcases this with ⟨h, _⟩ | ⟨b', sh', cs, et, h4, _, _, h5, _⟩
    · simp at h
    · obtain ⟨rfl, rfl⟩ := Prod.mk.inj (Option.some.inj h4)
      exact heap_lt h5
theorem Step.ofFrz {fz : List Nat} {x : T} {nw : List Ob} {K' : Ctx} {val : Value} (hk : ∀ l g gen, nw = [.arr l g (gen + 1)] → 0 < gen → False) (h : Step (K.frz ob fz) n ob x nw [] K' val) : Step K n ob x nw fz K' val where
  ext := (KExt.frz fz).trans h.ext
  below := h.below
  val := h.val
  new := h.new
  dom := h.dom
  F := fun b hb => by
    rcases h.F b hb with (h1 | h1) | h1 | ⟨o, l, g, e, sh, _, h2, _⟩
    · exact .inl h1
    · exact .inr (.inr h1)
    · exact .inr (.inl h1)
    · simp at h2
  frz := fun o l g e b sh h1 h2 h3 => h.ext.F b (.inr ⟨o, l, g, e, sh, h1, h2, h3⟩)
  place := fun i b sh hi he => by
    rcases h.place i b sh hi he with h | ⟨o, l, l', g, gen, _, h1, h2, h3, h4⟩
    · exact .inl h
    · exact (hk _ _ _ h1 h3).elim
  apart := h.apart
  kept := by
    rcases h.kept with h | ⟨o, l, l', g, gen, b, sh, cs, cs', e, h0, h1, h2, h3, h4, h5, h6, h7, h8⟩
    · exact .inl h
    · exact (hk _ _ _ h1 h3).elim
theorem toC_sound (hobj : ∀ o x s, ob o = some x → K.σ o = some s → RO K s x) {S : St} (hob : ob = obj S.o) {x : T} {c : C} {gs fz : List Nat} {u : Value} (h : toC S x = some (c, gs)) (hz : ∀ g ∈ gs, g ∈ fz) (r : RT K x u) : RC K.w (frzF K ob fz) c u := by
  have hm : ∀ (c : C) (u : Value), RC K.w K.F c u → RC K.w (frzF K ob fz) c u := fun c u => RC.mono (fun b h => .inl h) (fun _ _ => rfl) c u
  unfold toC at h
  split at h
  · simp at h; obtain ⟨rfl, rfl⟩ := h
    simp only [RT] at r; exact hm _ _ r
  · rename_i o off n sz cap
    simp only [RT] at r
    obtain ⟨A, c', rfl, h1, h2, h3⟩ := r
    split at h
    · rename_i l g gen hl
      simp at h; obtain ⟨rfl, rfl⟩ := h
      simp only [RC]
      refine ⟨A, c', rfl, h1, fun k hk => by simp at hk, ?_⟩
      rcases h3 with ⟨rfl, s, hs⟩ | ⟨b, sh, hs, rfl, _⟩
      · exact .inl ⟨by omega, by rw [show n = 0 by omega, Nat.zero_mul, rowAt_zero]⟩
      · have ho := hobj o _ _ (by rw [hob]; exact hl) hs
        simp only [RO] at ho
        rcases ho with ⟨h, _⟩ | ⟨b', sh', cs, et, h4, _, _, h5, h6⟩
        · simp at h
        · obtain ⟨rfl, rfl⟩ := Prod.mk.inj (Option.some.inj h4)
          exact .inr ⟨b, sh + off, rfl, .inr ⟨o, l, g, gen, sh, by rw [hob]; exact hl, hz g (by simp), hs⟩, RCs_row (RCs.mono (fun b h => .inl h) (fun _ _ => rfl) b rfl _ _ h6) _ _⟩
    · rename_i l hl
      simp at h; obtain ⟨rfl, rfl⟩ := h
      simp only [RC]
      refine ⟨A, c', rfl, h1, fun k hk => by simp at hk, ?_⟩
      rcases h3 with ⟨rfl, s, hs⟩ | ⟨b, sh, hs, rfl, _⟩
      · exact .inl ⟨by omega, by rw [show n = 0 by omega, Nat.zero_mul, rowAt_zero]⟩
      · have ho := hobj o _ _ (by rw [hob]; exact hl) hs
        simp only [RO] at ho
        rcases ho with ⟨h, _⟩ | ⟨b', sh', h4, h5, h6⟩
        · simp at h
        · obtain ⟨rfl, rfl⟩ := Prod.mk.inj (Option.some.inj h4)
          exact .inr ⟨b, sh + off, rfl, .inl h5, RCs_row (RCs.mono (fun b h => .inl h) (fun _ _ => rfl) b rfl _ _ h6) _ _⟩
    · simp at h
  · simp at h
theorem toCs_sound (hobj : ∀ o x s, ob o = some x → K.σ o = some s → RO K s x) {S : St} (hob : ob = obj S.o) : ∀ {l : List T} {cs : List C} {gs fz : List Nat} {us : List Value}, toCs S l = some (cs, gs) → (∀ g ∈ gs, g ∈ fz) → RTs K l us →
    cs.length = us.length ∧ ∀ (i : Nat) (c : C), cs[i]? = some c → ∃ u, us[i]? = some u ∧ RC K.w (frzF K ob fz) c u
  | [], cs, gs, fz, us, h, hz, r => by
    simp [toCs] at h; obtain ⟨rfl, rfl⟩ := h
    simp only [RTs] at r; subst r
    exact ⟨rfl, fun i c hi => by simp at hi⟩
  | x :: l, cs, gs, fz, us, h, hz, r => by
    simp only [toCs] at h
    obtain ⟨⟨c, g1⟩, h1, h⟩ := Option.bind_eq_some_iff.1 h
    obtain ⟨⟨cs', g2⟩, h2, h3⟩ := Option.map_eq_some_iff.1 h
    simp only [Prod.mk.injEq] at h3
    obtain ⟨rfl, rfl⟩ := h3
    simp only [RTs] at r
    obtain ⟨u, vs, rfl, r1, r2⟩ := r
    obtain ⟨h4, h5⟩ := toCs_sound hobj hob (fz := fz) h2 (fun g hg => hz g (by simp [hg])) r2
    refine ⟨by simp [h4], fun i c' hi => ?_⟩
    cases i with
    | zero => simp at hi; subst hi; exact ⟨u, rfl, toC_sound hobj hob h1 (fun g hg => hz g (by simp [hg])) r1⟩
    | succ i => simpa using h5 i c' (by simpa using hi)

/-! Many zeros. -/
theorem range_mod (zs : List Value) (sz : Nat) (hz : zs.length = sz) (h0 : 0 < sz) : ∀ k, (List.range (k * sz)).map (fun i => zs.toArray[i % zs.toArray.size]!) = (List.replicate k zs).flatten
  | 0 => by simp
  | k + 1 => by
    rw [Nat.add_mul, Nat.one_mul, List.range_add, List.map_append, range_mod zs sz hz h0 k, List.replicate_succ', List.flatten_append]
    congr 1
    simp only [List.flatten_singleton, List.map_map]
    apply List.ext_getElem
    · simp [hz]
    · intro i h1 h2
      simp only [List.length_map, List.length_range] at h1
      simp only [List.getElem_map, List.getElem_range, Function.comp_apply, List.size_toArray, hz]
      rw [show k * sz + i = i + k * sz by omega, Nat.add_mul_mod_self_right, Nat.mod_eq_of_lt h1]
      have h2' : i < zs.length := by omega
      rw [getElem!_pos zs.toArray i (by simpa using h2')]
      exact List.getElem_toArray _
theorem flatten_map_cell (zs : List Value) : ∀ k, (List.replicate k (zs.map cellT)).flatten = ((List.replicate k zs).flatten).map cellT
  | 0 => rfl
  | k + 1 => by rw [List.replicate_succ, List.replicate_succ, List.flatten_cons, List.flatten_cons, List.map_append, flatten_map_cell zs k]
theorem run_zero_cells {e : TypeId} {z : List T} {sz k : Nat} (h : zeroOf P e = some z) (hz : z.length = sz) : ∃ zs : List Value, z = zs.map cellT ∧ zs.length = sz ∧ ∃ za : Array Value,
    (∀ (α : Type) (f : Array Value → Sem α) (w : World), (if k * sz = 0 then (Sem.pure #[]).bind f else (zeroValue e).bind fun v => (Sem.pure v.cells).bind f).run P w = (f za).run P w) ∧ ((Array.range (k * sz)).map (fun i => za[i % za.size]!)).toList = (List.replicate k zs).flatten := by
  obtain ⟨v, h1, _, h3⟩ := zero_run h
  refine ⟨v.cells.toList, h3, by rw [← hz, h3]; simp, ?_⟩
  have hl : v.cells.toList.length = sz := by rw [← hz, h3]; simp
  by_cases h0 : k * sz = 0
  · refine ⟨#[], fun α f w => by rw [if_pos h0]; rfl, ?_⟩
    rw [h0]
    simp only [Array.toList_map, Array.toList_range, List.range_zero, List.map_nil]
    rcases Nat.mul_eq_zero.1 h0 with rfl | rfl
    · rfl
    · have : v.cells.toList = [] := List.length_eq_zero_iff.1 hl
      rw [this]; simp
  · refine ⟨v.cells, fun α f w => ?_, ?_⟩
    · rw [if_neg h0, Sem.run_bind', h1]; rfl
    · have := range_mod v.cells.toList sz hl (Nat.pos_of_ne_zero fun h => h0 (by rw [h, Nat.mul_zero])) k
      simpa using this
/-- A row is laid: step. -/
theorem Step.row (hg : Good K) (hobj : ∀ o x s, ob o = some x → K.σ o = some s → RO K s x) (hn : K.σ n = none) {l : List C} {us : List Value} {fz : List Nat} {len sz : Nat} (e : TypeId) (hlen : len * sz ≤ us.length)
    (hl : ∀ (i : Nat) (c : C), l[i]? = some c → ∃ u, us[i]? = some u ∧ RC K.w (frzF K ob fz) c u) :
    Step K n ob (.sl n 0 len sz (some len)) [.arr l n 1] fz ((K.frz ob fz).alloc n (.cells us.toArray e)) (.slice (some ⟨K.w.heap.size, 0, none⟩) len len) := by
  have hg' := hg.frz hobj fz
  refine .ofFrz (fun l g gen h h0 => by simp at h; omega) (.alloc hg' hn _ ?_ ?_)
  · simp only [RT]
    exact ⟨_, len, rfl, Nat.le_refl _, fun k hk => by simpa using hk, .inr ⟨K.w.heap.size, 0, by simp [Ctx.alloc, Ctx.frz], rfl, us.toArray, e, (0, 0), heap_alloc_new _ _, by simpa using hlen⟩⟩
  · simp only [RO]
    refine .inr ⟨K.w.heap.size, 0, us.toArray, e, rfl, fun hf => by have := hg'.F _ hf; exact Nat.lt_irrefl _ this, hg.base, heap_alloc_new _ _, ?_⟩
    refine RCs_mk (heap_alloc_new _ _) 0 l fun i c hc => ?_
    obtain ⟨u, hu, r⟩ := hl i c hc
    exact ⟨u, by simpa using hu, RC.mono (fun b h => h) (fun b h => heap_alloc_lt _ _ _ (hg'.F b h)) _ _ r⟩
theorem buildSlice_sound (hg : Good K) (hobj : ∀ o x s, ob o = some x → K.σ o = some s → RO K s x) (hn : K.σ n = none) (t : TypeId) (k : Nat) (ps : Array (Nat × Operand)) (d : Option Nat) (ty : TypeId) (pos : String) (af : Array Edge) (g : Option (Nat × Bool)) {S : St} (hob : ob = obj S.o) (hSn : S.n = n) {x : T} {nw : List Ob} {fz : List Nat}
    (hr : ∀ p ∈ ps, RT K (S.ev p.2) (a.eval p.2)) (h : buildSliceT P S t k (ps.toList.map fun p => (p.1, S.ev p.2)) = some (x, nw, fz)) : Does P K n ob a ⟨d, .buildSlice t k ps, ty, pos, af, g⟩ x nw fz := by
  subst hSn
  unfold buildSliceT at h
  obtain ⟨e, h1, h⟩ := Option.bind_eq_some_iff.1 h
  obtain ⟨sz, h2, h⟩ := Option.bind_eq_some_iff.1 h
  obtain ⟨z, h3, h⟩ := Option.bind_eq_some_iff.1 h
  split at h
  · rename_i hb
    obtain ⟨c, h4, h⟩ := Option.bind_eq_some_iff.1 h
    obtain ⟨⟨q, gs⟩, h5, h⟩ := Option.map_eq_some_iff.1 h
    simp only [Prod.mk.injEq] at h
    obtain ⟨rfl, rfl, rfl⟩ := h
    obtain ⟨zs, hz1, hz2, za, hz4, hz5⟩ := run_zero_cells (k := k) h3 hb.2
    obtain ⟨hp1, hp2⟩ := parts_rel ps hr
    have hz : RTs K ((List.replicate k z).flatten) ((Array.range (k * sz)).map (fun i => za[i % za.size]!)).toList := by
      rw [hz5, hz1, flatten_map_cell]; exact RTs_cellT K _
    obtain ⟨vr, h7, h8⟩ := fill_sound (plT := fun i => some (i * sz, sz)) (plV := fun i => some (i * sz, sz)) (fun i p hi => hi) _ _ _ _ c hz hp1 hp2 h4
    obtain ⟨h9, h10⟩ := toCs_sound hobj hob (fz := gs) h5 (fun g hg => hg) h8
    have hlen : vr.toList.length = k * sz := by
      have e1 := RTs_length _ _ h8
      have fl : ∀ (ps : List (Nat × T)) (cs r : List T), fillT (fun i => some (i * sz, sz)) cs ps = some r → r.length = cs.length := by
        intro ps
        induction ps with
        | nil => intro cs r h; simp [fillT] at h; subst h; rfl
        | cons p ps ih =>
          intro cs r h
          obtain ⟨i, x⟩ := p
          simp only [fillT] at h
          obtain ⟨p, hp, h⟩ := Option.bind_eq_some_iff.1 h
          obtain ⟨l, hl, h⟩ := Option.bind_eq_some_iff.1 h
          split at h
          · rename_i hb
            rw [ih _ _ h]
            simp [splice]; omega
          · simp at h
      rw [e1, fl _ _ _ h4]
      simp [hb.2]
    refine .inl ⟨_, _, ?_, Step.row hg hobj hn (us := vr.toList) (len := k) (sz := sz) e (by omega) h10⟩
    simp only [execOp]
    rw [run_value]
    simp only [Instr.buildSlice, bind, Sem.run_bind', under_run (elemOf_run h1), Result.andThen, szOf_run h2, Pure.pure]
    rw [if_neg (by omega)]
    rw [hz4]
    simp only [h7, Sem.run_bind', newRow, newObj, bind, Sem.run, Sem.bind, Pure.pure, Result.andThen, World.alloc_eq]
    rfl
  · simp at h
theorem makeMap_sound (hg : Good K) (hn : K.σ n = none) (t : TypeId) (r : Option Operand) (d : Option Nat) (ty : TypeId) (pos : String) (af : Array Edge) (g : Option (Nat × Bool)) {x : T} {nw : List Ob}
    (h : makeMapT P n t r = some (x, nw)) : Does P K n ob a ⟨d, .makeMap t r, ty, pos, af, g⟩ x nw [] := by
  unfold makeMapT at h
  split at h
  · obtain ⟨e, _, h2⟩ := Option.map_eq_some_iff.1 h
    obtain ⟨rfl, rfl⟩ := Prod.mk.inj h2
    refine .inl ⟨_, _, ?_, Step.alloc (ob := ob) hg hn (.map #[] 0) (val := .map (some K.w.heap.size)) ?_ ?_⟩
    · simp only [execOp]
      rw [run_value]
      simp only [Instr.makeMap, Option.map_none, newObj, bind, Pure.pure, Sem.bind, Sem.run, World.alloc_eq, Result.andThen]
      rfl
    · simp only [RT]; exact ⟨_, 0, by simp [Ctx.alloc], rfl⟩
    · simp only [RO]
      exact ⟨_, #[], rfl, fun hf => by have := hg.F _ hf; exact Nat.lt_irrefl _ this, hg.base, heap_alloc_new _ _, by simp [REs], by simp⟩
  · simp at h
theorem wrap_small {x : Int} (h0 : 0 ≤ x) (h1 : x ≤ 140737488355328) : IntKind.i64.wrap x = x := by
  simp only [IntKind.wrap, IntKind.bits, IntKind.signed]
  have : x % (2 ^ 64 : Int) = x := Int.emod_eq_of_lt h0 (by omega)
  simp only [this]
  rw [if_neg (by simp; omega)]
theorem makeSlice_sound (hg : Good K) (hobj : ∀ o x s, ob o = some x → K.σ o = some s → RO K s x) (hn : K.σ n = none) (t : TypeId) (y z : Operand) (d : Option Nat) (ty : TypeId) (pos : String) (af : Array Edge) (g : Option (Nat × Bool)) {S : St} (hSn : S.n = n) {x : T} {nw : List Ob}
    (hy : RT K (S.ev y) (a.eval y)) (hz : RT K (S.ev z) (a.eval z)) (h : makeSliceT P S t (S.ev y) (S.ev z) = some (x, nw)) : Does P K n ob a ⟨d, .makeSlice t y z, ty, pos, af, g⟩ x nw [] := by
  subst hSn
  unfold makeSliceT at h
  obtain ⟨e, h1, h⟩ := Option.bind_eq_some_iff.1 h
  obtain ⟨sz, h2, h⟩ := Option.bind_eq_some_iff.1 h
  obtain ⟨by_, h3, h⟩ := Option.bind_eq_some_iff.1 h
  obtain ⟨zz, h4, h⟩ := Option.bind_eq_some_iff.1 h
  split at h
  · rename_i i j e1 e2
    rw [e1] at hy; rw [e2] at hz
    have hy := RT_v hy
    have hz := RT_v hz
    split at h
    · rename_i hb
      obtain ⟨b1, rfl, b2, b3, rfl⟩ := hb
      split at h
      · rename_i v
        simp only [Option.some.injEq, Prod.mk.injEq] at h
        obtain ⟨rfl, rfl⟩ := h
        obtain ⟨info, h5, h6⟩ := bytes_run h3
        obtain ⟨v0, hv1, _, hv3⟩ := zero_run h4
        obtain ⟨u, hu0⟩ : ∃ u, v0.cells = #[u] := by
          have hl := congrArg List.length hv3
          simp at hl
          obtain ⟨cs⟩ : Nonempty (List Value) := ⟨v0.cells.toList⟩
          match hc : v0.cells.toList, (show v0.cells.toList.length = 1 by simpa using hl.symm) with
          | [u], _ => exact ⟨u, by rw [← Array.toArray_toList (xs := v0.cells), hc]⟩
        have hv : cellT u = .c (.v v) := by rw [hu0] at hv3; simp at hv3; exact hv3.symm
        have hu : RC K.w K.F (.v v) u := by have := RT_cellT K u; rw [hv] at this; simpa only [RT] using this
        have st := Step.row (ob := ob) hg hobj hn (l := List.replicate i.toNat (.v v)) (us := List.replicate i.toNat u) (fz := []) (len := i.toNat) (sz := 1) e (by simp)
          (fun k c hc => by
            rw [List.getElem?_replicate] at hc
            split at hc
            · rename_i hk
              obtain rfl := Option.some.inj hc
              exact ⟨u, by rw [List.getElem?_replicate, if_pos hk], RC.mono (fun b h => .inl h) (fun _ _ => rfl) _ _ hu⟩
            · simp at hc)
        refine .inl ⟨_, _, ?_, st⟩
        simp only [execOp]
        rw [run_value, hy, hz]
        have t1 : ¬ ((info.bytes : Int) * i > 2 ^ 48) := by rw [h6, Int.mul_comm]; omega
        have t2 : ¬ i < 0 := by omega
        simp only [Instr.makeSlice, bind, Sem.run_bind', under_run (elemOf_run h1), Result.andThen, asInt, asIntOf, Pure.pure, Sem.bind, info_run h5, wrap_small b1 b2]
        simp only [t1, t2, decide_false, Bool.or_self, Bool.false_eq_true, if_false, Int.lt_irrefl, gt_iff_lt]
        have hroom : ∀ k w, (askRoom k).run P w = .ok () w := fun k w => by unfold askRoom; split <;> rfl
        rw [Sem.run_bind', hroom]
        simp only [Sem.run_bind', szOf_run h2, Result.andThen, Nat.mul_one]
        by_cases h0 : i.toNat = 0
        · simp only [h0, if_true, Sem.run_bind', newRow, newObj, bind, Sem.run, Sem.bind, Pure.pure, Result.andThen, World.alloc_eq]
          simp only [Ctx.alloc, Ctx.frz]
          rw [show Array.range 0 = #[] from rfl, Array.map_empty]
          rfl
        · have hr := range_mod [u] 1 rfl (by omega) i.toNat
          rw [Nat.mul_one] at hr
          have hrow : Array.map (fun x => (#[u] : Array Value)[x % (#[u] : Array Value).size]!) (Array.range i.toNat) = (List.replicate i.toNat u).toArray := by
            apply Array.toList_inj.1
            simp only [Array.toList_map, Array.toList_range, hr]
            simp
          simp only [h0, if_false, Sem.run_bind', hv1, hu0, Result.andThen, newRow, newObj, bind, Sem.run, Sem.bind, Pure.pure, World.alloc_eq, hrow]
          rfl
      · simp at h
    · simp at h
  · simp at h

end
end Go.Proofs.Ytnbijiopcgfmfaa.Tev
