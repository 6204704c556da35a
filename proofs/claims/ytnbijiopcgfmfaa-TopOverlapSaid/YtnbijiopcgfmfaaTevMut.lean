/- A library function that writes into a row of this call's own (slices.Sort, slices.Compact): the state behind it. -/
import Derived.Test.YtnbijiopcgfmfaaTevLim
import Derived.Sort.Grow
namespace Go.Proofs.Ytnbijiopcgfmfaa.Tev
open Go Go.RowKit
set_option linter.unusedSectionVars false
set_option linter.unusedVariables false
set_option linter.unusedSimpArgs false
section
variable {m : Nat} {w0 : World} {F0 : Nat → Prop} {K : Ctx} {S : St} {a : Act}
/-- New blocks behind the old ones, draws. -/
theorem Inv.grown (h : Inv m w0 F0 K S a) {w' : World} (hb : Below K.w.heap.size K.w w') : Inv m w0 F0 { K with w := w' } S a := by
  have st : Step K S.n (obj S.o) .und [] [] { K with w := w' } undef := {
    ext := ⟨rfl, fun _ h => h, fun _ _ h => h, fun b hb' => hb.block b (hb'.elim (h.good.F b) fun q => Nat.lt_of_lt_of_le q h.good.base), fun b cs e fr hh => ⟨cs, e, fr, (hb.block b (heap_lt hh)).trans hh, rfl⟩⟩
    below := hb.mono h.good.base
    val := by simp only [RT]
    new := fun i y h => by simp at h
    dom := fun o s h => .inl h
    F := fun b h => .inl h
    frz := fun o l g e b sh _ h => by simp at h
    place := fun i b sh h => by simp at h
    apart := fun i j b sh sh' h => by simp at h
    kept := .inl fun b hb' => hb.block b hb' }
  have hoi := OInv.step (fz := []) (nw := []) h.good h.oi (fun o y s h1 _ => h1) (fun _ o y h => h) (fun i hi => by simp at hi) (fun y hy => by simp at hy) (fun p l l' g gen h1 => by simp at h1) st
  exact { h with
    good := h.good.step h.oi.objs st
    below := h.below.trans (st.below.mono (by rw [h.base]; exact Nat.le_refl _))
    tm := fun t => RT.mono st.ext _ _ (h.tm t)
    oi := by
      refine cast (congrArg (OInv _) (funext fun o => ?_)) hoi
      rw [if_neg (by rintro ⟨h1, h2⟩; simp at h2; omega)]
      cases obj S.o o <;> rfl }
abbrev encI : Int → Value := Value.int .i64
theorem ints_map (l : List Int) : l.map CI = l.map fun x => C.v (encI x) := rfl
theorem putCells_size (off : Nat) (d : Array Int) (c : Array Value) : (Sort.putCells encI off d c).size = c.size := by simp [Sort.putCells]
theorem putCells_get (off : Nat) (d : Array Int) (c : Array Value) (i : Nat) : (Sort.putCells encI off d c)[i]? = if off ≤ i ∧ i < off + d.size ∧ i < c.size then some (encI d[i - off]!) else c[i]? := by
  unfold Sort.putCells
  rw [Array.getElem?_mapIdx]
  by_cases hi : i < c.size
  · rw [Array.getElem?_eq_getElem hi]
    by_cases h : off ≤ i ∧ i < off + d.size
    · rw [if_pos ⟨h.1, h.2, hi⟩]; simp [h]
    · rw [if_neg (fun q => h ⟨q.1, q.2.1⟩)]; simp [h]
  · rw [if_neg (fun q => hi q.2.2), Array.getElem?_eq_none (by omega)]; rfl
theorem putRow_heap {w : World} {b : Nat} {cs : Array Value} {e : TypeId} {fr : Nat × Nat} (hh : w.heap[b]? = some (.cells cs e fr)) (sh q : Nat) (d : Array Int) : (Sort.putRow encI (Sort.ahead w q) b sh d).heap = (w.setRow b (Sort.putCells encI sh d cs)).heap := by
  apply Array.ext_getElem?
  intro i
  by_cases hi : i = b
  · subst hi
    rw [setRow_heap _ _ _ _ _ _ hh]
    simp only [Sort.putRow, Sort.mapBlock, Sort.ahead, Array.getElem?_modify, if_true, hh, Option.map_some]
    rfl
  · rw [setRow_other _ _ _ _ hi]
    simp only [Sort.putRow, Sort.mapBlock, Sort.ahead, Array.getElem?_modify, if_neg (fun h : b = i => hi h.symm)]
/-- The row at p holds other numbers, as many as before. -/
theorem Inv.mutRow (h : Inv m w0 F0 K S a) {p b sh g gen : Nat} {xs ys : List Int} (hp : obj S.o p = some (.arr (xs.map CI) g gen)) (hs : K.σ p = some (some (b, sh))) (hl : ys.length = xs.length) (q : Nat) (os : Array Obj) :
    Inv m w0 F0 { K with w := Sort.grow (Sort.putRow encI (Sort.ahead K.w q) b sh ys.toArray) os } { S with o := killG g p (setO p (.arr (ys.map CI) g gen) S.o) } a := by
  have hro := h.oi.objs p _ _ hp hs
  simp only [RO] at hro
  rcases hro with ⟨q, _⟩ | ⟨b', sh', cs, e, e1, hF, hb, hh, hr⟩
  · simp at q
  obtain ⟨rfl, rfl⟩ := Prod.mk.inj (Option.some.inj e1)
  have hput := putRow_heap hh sh q ys.toArray
  have h1 : Inv m w0 F0 (K.setRow b (Sort.putCells encI sh ys.toArray cs)) { S with o := killG g p (setO p (.arr (ys.map CI) g gen) S.o) } a := by
    refine h.write hp hs hF hb hh (putCells_size _ _ _) (y := .arr (ys.map CI) g gen) (fun o => ?_) ?_ (.inr ⟨_, _, g, gen, rfl, rfl⟩)
    · rw [obj_killG, obj_setO]
      split
      · rename_i e; subst e; rw [hp]; simp [kill1]
      · rename_i hne
        cases obj S.o o with
        | none => rfl
        | some z => cases z <;> simp [kill1, kill2, hne]
    · simp only [RO]
      refine .inr ⟨b, sh, _, e, rfl, hF, hb, setRow_heap _ _ _ _ _ _ hh, ?_⟩
      refine RCs_mk (setRow_heap _ _ _ _ _ _ hh) sh _ fun i c hc => ?_
      rw [List.getElem?_map] at hc
      obtain ⟨y, hy, rfl⟩ := Option.map_eq_some_iff.1 hc
      have hi : i < ys.length := by rcases Nat.lt_or_ge i ys.length with h' | h'; exact h'; simp [h'] at hy
      have hx : sh + i < cs.size := by
        obtain ⟨u, hu, _⟩ := RCs_get _ _ i (CI xs[i]) hr (by rw [List.getElem?_map, List.getElem?_eq_getElem (by omega)]; rfl)
        simp only [World.cell?, hh, Option.isSome, Bool.false_eq_true, if_false] at hu
        rcases Nat.lt_or_ge (sh + i) cs.size with h' | h'
        · exact h'
        · simp [Array.getElem?_eq_none h'] at hu
      refine ⟨encI y, ?_, ?_⟩
      · rw [putCells_get, if_pos ⟨by omega, by simp; omega, hx⟩]
        congr 2
        rw [show sh + i - sh = i by omega]
        simp only [List.getElem!_toArray]
        rw [List.getElem!_eq_getElem?_getD, hy]; rfl
      · simp [RC, flat]
  have h2 := h1.grown (w' := Sort.grow (Sort.putRow encI (Sort.ahead K.w q) b sh ys.toArray) os) ?_
  · exact h2
  · refine ⟨rfl, rfl, rfl, ?_, fun c hc => ?_⟩
    · show (K.w.setRow b _).heap.size ≤ ((Sort.putRow encI (Sort.ahead K.w q) b sh ys.toArray).heap ++ os).size
      rw [hput]; simp
    · show ((Sort.putRow encI (Sort.ahead K.w q) b sh ys.toArray).heap ++ os)[c]? = (K.w.setRow b _).heap[c]?
      have hc' : c < (K.w.setRow b (Sort.putCells encI sh ys.toArray cs)).heap.size := hc
      rw [hput, Array.getElem?_append_left hc']
/-- What the library asks of the row. -/
theorem Inv.holds (h : Inv m w0 F0 K S a) {p b sh g gen : Nat} {xs : List Int} (hp : obj S.o p = some (.arr (xs.map CI) g gen)) (hs : K.σ p = some (some (b, sh))) : Sort.Holds encI K.w b sh xs.toArray ∧ b < K.w.heap.size := by
  have hro := h.oi.objs p _ _ hp hs
  simp only [RO] at hro
  rcases hro with ⟨q, _⟩ | ⟨b', sh', cs, e, e1, hF, hb, hh, hr⟩
  · simp at q
  obtain ⟨rfl, rfl⟩ := Prod.mk.inj (Option.some.inj e1)
  refine ⟨fun j hj => ?_, heap_lt hh⟩
  simp only [List.size_toArray] at hj
  obtain ⟨u, hu, hv⟩ := RCs_get _ _ j (CI xs[j]) hr (by rw [List.getElem?_map, List.getElem?_eq_getElem hj]; rfl)
  simp only [RC] at hv
  refine ⟨?_, ?_⟩
  · rw [hu, hv.1]
    simp only [List.getElem!_toArray]
    rw [List.getElem!_eq_getElem?_getD, List.getElem?_eq_getElem hj]; rfl
  · simp [World.frozen?, hh]
end
end Go.Proofs.Ytnbijiopcgfmfaa.Tev
