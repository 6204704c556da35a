/- What came in, opened as trees: an argument that can be read as data is the tree of what is read. Plain lemmas over any program. -/
import Derived.Test.YtnbijiopcgfmfaaTevLim
import Derived.SizedLaws
import Derived.ChangeSlices
import Derived.ChangeArms
import Derived.OpenShut
import Derived.WideShapes
set_option linter.unusedVariables false
namespace Go.Proofs.Ytnbijiopcgfmfaa.Tev
open Go Go.RowKit Go.ChangeShapes Go.WideShapes
set_option linter.unusedSectionVars false
set_option linter.unusedSimpArgs false
/-- The world as it is at the start: nothing that is there is written. -/
def Old (w : World) : Ctx := ⟨w, fun b => b < w.heap.size, w.heap.size, fun _ => none⟩
/-- Whatever reads as a value of type t is the tree of cells that I tells. -/
def Opn (P : Program) (w : World) (t : TypeId) (I : List C → Prop) : Prop :=
  ∀ (H : Type) (enc : TypeId × Value → H) (fuel : Nat) (cs : List Value) (x : DataW H × List MemPlace), DataW.trod enc P w 0 (fun _ => true) true fuel t cs = some x →
    (∀ n ∈ x.1.weights P t, n ≤ reachBytes) → ∃ l : List C, RTs (Old w) (l.map T.c) cs ∧ I l
variable {P : Program} {w : World}
theorem opn_int {t : TypeId} {k : IntKind} (ht : P.underlying t = some (.int k)) : Opn P w t (fun l => ∃ n, l = [.v (.int k n)] ∧ (Lit.int k n).wf = true) := by
  intro H enc fuel cs x h _
  obtain ⟨n, rfl, _, hw⟩ := DataW.trod_int ht h
  exact ⟨_, by simp only [List.map_cons, List.map_nil, RTs]; exact ⟨_, _, rfl, by simp only [RT, RC]; exact ⟨trivial, rfl⟩, rfl⟩, n, rfl, hw⟩
theorem opn_bool {t : TypeId} (ht : P.underlying t = some .bool) : Opn P w t (fun l => ∃ b, l = [.v (.bool b)]) := by
  intro H enc fuel cs x h _
  obtain ⟨b, rfl, _⟩ := DataW.trod_bool ht h
  exact ⟨_, by simp only [List.map_cons, List.map_nil, RTs]; exact ⟨_, _, rfl, by simp only [RT, RC]; exact ⟨trivial, rfl⟩, rfl⟩, b, rfl⟩
theorem opn_string {t : TypeId} (ht : P.underlying t = some .string) : Opn P w t (fun l => ∃ s, l = [.v (.string s)] ∧ s.size ≤ 140737488351232) := by
  intro H enc fuel cs x h hz
  obtain ⟨s, rfl, rfl, _⟩ := DataW.trod_string ht h
  refine ⟨_, by simp only [List.map_cons, List.map_nil, RTs]; exact ⟨_, _, rfl, by simp only [RT, RC]; exact ⟨trivial, rfl⟩, rfl⟩, s, rfl, ?_⟩
  have := hz s.data.toList.length (by simp [DataW.weights])
  simpa [reachBytes] using this
theorem opn_weights {H : Type} {e : TypeId} : ∀ {l : List (DataW H)} {d : DataW H}, d ∈ l → ∀ n ∈ d.weights P e, n ∈ DataW.weightsAll P e l
  | x :: r, d, hd, n, hn => by
    simp only [DataW.weightsAll, List.mem_append]
    rcases List.mem_cons.1 hd with rfl | hd
    · exact .inl hn
    · exact .inr (opn_weights hd n hn)
theorem opn_choose {β : Type} {p : Nat → β → Prop} (n : Nat) (h : ∀ i, i < n → ∃ y, p i y) : ∃ l : List β, l.length = n ∧ ∀ i y, l[i]? = some y → p i y := by
  induction n with
  | zero => exact ⟨[], rfl, fun i y hi => by simp at hi⟩
  | succ n ih =>
    obtain ⟨l, hl, hp⟩ := ih (fun i hi => h i (by omega))
    obtain ⟨y, hy⟩ := h n (by omega)
    refine ⟨l ++ [y], by simp [hl], fun i z hz => ?_⟩
    by_cases hi : i < n
    · rw [List.getElem?_append_left (by omega)] at hz
      exact hp i z hz
    · have : i = n := by
        have := (List.getElem?_eq_some_iff.1 hz).1
        simp at this
        omega
      subst this
      rw [List.getElem?_append_right (by omega), hl] at hz
      simp at hz
      subst hz
      exact hy
theorem RCs_append {F : Nat → Prop} {b : Nat} : ∀ (o : Nat) (l l' : List C), RCs w F b o l → RCs w F b (o + l.length) l' → RCs w F b o (l ++ l')
  | o, [], l', _, h => by simpa using h
  | o, x :: l, l', h, h' => by
    simp only [RCs, List.cons_append] at h ⊢
    exact ⟨h.1, RCs_append (o + 1) l l' h.2 (by simpa [Nat.add_assoc, Nat.add_comm 1] using h')⟩
/-- The cells of elements that lie one behind the other. -/
theorem RCs_flat {F : Nat → Prop} {b sz : Nat} : ∀ (o : Nat) (ls : List (List C)), (∀ (i : Nat) l, ls[i]? = some l → l.length = sz ∧ RCs w F b (o + i * sz) l) → RCs w F b o ls.flatten
  | o, [], _ => by simp only [List.flatten_nil, RCs]
  | o, l :: ls, h => by
    have h0 := h 0 l rfl
    rw [List.flatten_cons]
    refine RCs_append o l _ (by simpa using h0.2) (RCs_flat (sz := sz) _ ls fun i l' hl' => ?_)
    have h1 := h (i + 1) l' (by simpa using hl')
    exact ⟨h1.1, by rw [h0.1, show o + sz + i * sz = o + (i + 1) * sz by rw [Nat.add_mul]; omega]; exact h1.2⟩
theorem opn_slice {t e : TypeId} {I : List C → Prop} {B sz : Nat} (ht : P.underlying t = some (.slice e)) (he : Opn P w e I) (hc : P.cellsOf e = sz) (hs : 0 < sz) (hB : P.bytesOf e = B) :
    Opn P w t (fun l => ∃ ls : List (List C), l = [.s none ls.length ls.flatten] ∧ ls.length * B ≤ 140737488351232 ∧ ∀ x ∈ ls, I x) := by
  intro H enc fuel cs x h hz
  rcases DataW.trod_slice ht h with ⟨rfl, rfl⟩ | ⟨a, len, cap, elems, rest, n, _, rfl, rfl, hb, hl, hm, hlen, hel, hsp, hns⟩
  · refine ⟨_, ?_, [], rfl, by simp, fun x hx => by simp at hx⟩
    simp only [List.map_cons, List.map_nil, RTs]
    refine ⟨_, _, rfl, ?_, rfl⟩
    simp only [RT, RC]
    exact ⟨none, 0, rfl, Nat.le_refl _, fun k hk => by simp at hk, .inl ⟨rfl, rfl⟩⟩
  · have hw : (elems.length + rest.length) * B ≤ reachBytes := by
      have := hz ((elems.length + rest.length) * B) (by simp [DataW.weights, ht, hB])
      exact this
    have hin : ∀ i, i < len → ∃ l : List C, l.length = sz ∧ I l ∧ a.spot = none ∧ a.block < w.heap.size ∧ RCs w (fun b => b < w.heap.size) a.block (a.off + i * sz) l := by
      intro i hi
      have h1 := hel i hi
      obtain ⟨x, hx⟩ : ∃ x, elems[i]? = some x := ⟨elems[i]'(by omega), List.getElem?_eq_getElem (by omega)⟩
      rw [hx, Option.bind_eq_some_iff] at h1
      obtain ⟨c, hc1, hc2⟩ := h1
      obtain ⟨l, hr, hI⟩ := he H enc n c x hc2 (fun m hm' => hz m (by
        simp only [DataW.weights, ht, List.mem_cons, List.mem_append]
        exact .inr (.inl (opn_weights (List.mem_map_of_mem (List.mem_of_getElem? hx)) m hm'))))
      obtain ⟨_, hlen2, hcell⟩ := World.cells?_some hc1
      have hl2 : l.length = sz := by have := RTs_length _ _ hr; rw [List.length_map] at this; rw [← this, hlen2, hc]
      rw [hc] at hcell hlen2
      have spot : ∀ (a : Addr) u, w.cell? a = some u → a.spot = none ∧ a.block < w.heap.size := fun a u hu => by
        unfold World.cell? at hu
        split at hu
        · rename_i hh
          split at hu
          · simp at hu
          · rename_i hsn
            exact ⟨by simpa using hsn, heap_lt hh⟩
        · simp at hu
      have hz0 := hcell 0 hs
      rw [List.getElem?_eq_getElem (by omega)] at hz0
      have hblk : ∀ (a : Addr) m, (a.add m).block = a.block := fun a m => by unfold Addr.add; split <;> rfl
      have hfull : ∀ j, ((a.add (i * sz)).add j) = ⟨a.block, a.off + i * sz + j, if i * sz = 0 ∧ j = 0 then a.spot else none⟩ := fun j => by
        obtain ⟨ab, ao, as⟩ := a
        unfold Addr.add
        by_cases h1 : i * sz = 0 <;> by_cases h2 : j = 0 <;> simp [h1, h2]
      -- the address is a plain one if there is an element at all: its first cell shows it
      have hsp0 : a.spot = none ∧ a.block < w.heap.size := by
        have h1 := hel 0 (by omega)
        obtain ⟨x0, hx0⟩ : ∃ x, elems[0]? = some x := ⟨elems[0]'(by omega), List.getElem?_eq_getElem (by omega)⟩
        rw [hx0, Option.bind_eq_some_iff] at h1
        obtain ⟨c0, hc0, _⟩ := h1
        obtain ⟨_, hl0, hcell0⟩ := World.cells?_some hc0
        rw [hc] at hcell0 hl0
        have h2 := hcell0 0 hs
        rw [List.getElem?_eq_getElem (by omega)] at h2
        have h3 : (a.add (0 * sz)).add 0 = a := by unfold Addr.add; simp
        rw [h3] at h2
        exact spot a _ h2
      refine ⟨l, hl2, hI, hsp0.1, hsp0.2, RCs_of_get _ _ fun j y hj => ?_⟩
      have hjl : j < sz := by rcases Nat.lt_or_ge j l.length with h' | h'; omega; simp [h'] at hj
      have h2 := hcell j hjl
      rw [List.getElem?_eq_getElem (by omega), hfull j] at h2
      obtain ⟨u, hu, r⟩ := RTs_get _ _ j (.c y) hr (by simp [hj])
      rw [List.getElem?_eq_getElem (by omega)] at hu
      refine ⟨u, ?_, by simp only [RT] at r; exact r⟩
      rw [← hu, ← h2]
      congr 1
      split
      · rw [hsp0.1]
      · rfl
    obtain ⟨ls, hll, hlp⟩ := opn_choose len hin
    have hle : len * B ≤ 140737488351232 := Nat.le_trans (Nat.mul_le_mul_right _ (by omega)) hw
    subst hll
    refine ⟨_, ?_, ls, rfl, hle, fun x hx => ?_⟩
    · simp only [List.map_cons, List.map_nil, RTs]
      refine ⟨_, _, rfl, ?_, rfl⟩
      simp only [RT, RC]
      refine ⟨some a, cap, rfl, hl, fun k hk => by simp at hk, ?_⟩
      cases ls with
      | nil => exact .inl ⟨rfl, rfl⟩
      | cons l0 ls =>
        right
        have h0 := hlp 0 l0 rfl
        refine ⟨a.block, a.off, ?_, h0.2.2.2.1, RCs_flat (sz := sz) _ _ fun i l hl => ⟨(hlp i l hl).1, (hlp i l hl).2.2.2.2⟩⟩
        obtain ⟨ab, ao, as⟩ := a
        have := h0.2.2.1
        simp only at this
        subst this
        rfl
    · obtain ⟨i, hi⟩ := List.getElem?_of_mem hx
      exact (hlp i x hi).2.1
/-- The fields of a struct from the cell o on. -/
def OpnF (P : Program) (w : World) (fs : List Field) (o sz : Nat) (I : List C → Prop) : Prop :=
  ∀ (H : Type) (enc : TypeId × Value → H) (fuel : Nat) (cs : List Value) (xs : List (DataW H × List MemPlace)), xs.length = fs.length →
    (∀ (i : Nat) (f : Field), fs[i]? = some f → DataW.trod enc P w 0 (fun _ => true) true fuel f.type ((cs.drop f.offset).take (P.cellsOf f.type)) = xs[i]?) →
    (∀ n ∈ DataW.weightsEach P (fs.map (·.type)) (xs.map (·.1)), n ≤ reachBytes) → ∃ l : List C, RTs (Old w) (l.map T.c) ((cs.drop o).take sz) ∧ I l
theorem opnF_one {f : Field} {o sz : Nat} {I : List C → Prop} (h : Opn P w f.type I) (ho : f.offset = o) (hc : P.cellsOf f.type = sz) : OpnF P w [f] o sz I := by
  intro H enc fuel cs xs hl hx hz
  match xs, hl with
  | [x], _ =>
    have h1 := hx 0 f rfl
    rw [ho, hc] at h1
    exact h H enc fuel _ x h1 (fun n hn => hz n (by simp [DataW.weightsEach, hn]))
theorem opnF_cons {f : Field} {fs : List Field} {o sz sz2 : Nat} {I I2 : List C → Prop} (h : Opn P w f.type I) (ho : f.offset = o) (hc : P.cellsOf f.type = sz) (h2 : OpnF P w fs (o + sz) sz2 I2) :
    OpnF P w (f :: fs) o (sz + sz2) (fun l => ∃ l1 l2, l = l1 ++ l2 ∧ I l1 ∧ I2 l2) := by
  intro H enc fuel cs xs hl hx hz
  match xs, hl with
  | x :: r, hl =>
    have h1 := hx 0 f rfl
    rw [ho, hc] at h1
    obtain ⟨a, hK, hI⟩ := h H enc fuel _ x h1 (fun n hn => hz n (by simp [DataW.weightsEach, hn]))
    obtain ⟨b, hK2, hI2⟩ := h2 H enc fuel cs r (by simpa using hl) (fun i g hg => hx (i + 1) g (by simpa using hg)) (fun n hn => hz n (by simp only [List.map_cons, DataW.weightsEach, List.mem_append]; exact .inr hn))
    refine ⟨a ++ b, ?_, a, b, rfl, hI, hI2⟩
    rw [List.take_add, List.drop_drop, List.map_append]
    exact RTs_append hK hK2
theorem opn_struct {t : TypeId} {fs : Array Field} {sz : Nat} {I : List C → Prop} (ht : P.underlying t = some (.struct fs)) (h : OpnF P w fs.toList 0 sz I) (hc : P.cellsOf t = sz) : Opn P w t I := by
  intro H enc fuel cs x hx hz
  obtain ⟨xs, n, _, rfl, hl, hlen, hf⟩ := DataW.trod_struct ht hx
  obtain ⟨a, hK, hI⟩ := h H enc n cs xs (by simpa using hlen) (fun i g hg => hf i g (by simpa using hg)) (fun m hm => hz m (by simp only [DataW.weights, ht]; exact hm))
  refine ⟨a, ?_, hI⟩
  rw [List.drop_zero, List.take_of_length_le (by omega)] at hK
  exact hK
theorem opn_mono {t : TypeId} {I I' : List C → Prop} (h : Opn P w t I) (hi : ∀ l, I l → I' l) : Opn P w t I' := by
  intro H enc fuel cs x hx hz
  obtain ⟨a, hK, hI⟩ := h H enc fuel cs x hx hz
  exact ⟨a, hK, hi a hI⟩
/-- An argument, opened. -/
theorem arg_cells {H : Type} {enc : TypeId × Value → H} {t : TypeId} {I : List C → Prop} (h : Opn P w t I) {v : Value} {x : DataW H} {ps : List MemPlace} {ts : List TypeId} {ds : List (DataW H)} {j : Nat}
    (hr : DataW.Trod enc P w 0 (fun _ => true) true t v x ps) (hsz : (DataW.weightsEach P ts ds).all (· ≤ reachBytes) = true) (ht : ts[j]? = some t) (hd : ds[j]? = some x) : ∃ l : List C, RTs (Old w) (l.map T.c) v.cells.toList ∧ I l := by
  obtain ⟨fuel, hf⟩ := hr
  refine h H enc fuel _ (x, ps) hf (fun n hn => ?_)
  have := List.all_eq_true.1 hsz n (DataW.weights_mem_each ht hd n hn)
  simpa using this
theorem arg_agg {r : Reach} {b0 : Nat} {t : TypeId} {fs : Array Field} {v : Value} {l : List C} (ht : P.underlying t = some (.struct fs)) (hv : Value.okWide P w r b0 t v) (hl : RTs (Old w) (l.map T.c) v.cells.toList) : RT (Old w) (.agg (l.map T.c)) v := by
  obtain ⟨cs, rfl, _⟩ := okWide_struct ht hv
  simp only [RT]
  exact ⟨cs.toList, by simp, hl⟩
theorem arg_slice {r : Reach} {b0 : Nat} {t e : TypeId} {v : Value} {c : C} (ht : P.underlying t = some (.slice e)) (hv : Value.okWide P w r b0 t v) (hl : RTs (Old w) [.c c] v.cells.toList) : RT (Old w) (.c c) v := by
  obtain ⟨a, len, cap, rfl⟩ := okWide_slice ht hv
  simp only [RTs, Value.cells] at hl
  obtain ⟨u, vs, h1, h2, _⟩ := hl
  simp at h1
  rw [h1.1]; exact h2
theorem arg_int {r : Reach} {b0 : Nat} {t : TypeId} {k : IntKind} {v : Value} {c : C} (ht : P.underlying t = some (.int k)) (hv : Value.okWide P w r b0 t v) (hl : RTs (Old w) [.c c] v.cells.toList) : RT (Old w) (.c c) v := by
  obtain ⟨n, rfl⟩ := okWide_int ht hv
  simp only [RTs, Value.cells] at hl
  obtain ⟨u, vs, h1, h2, _⟩ := hl
  simp at h1
  rw [h1.1]; exact h2
theorem arg_str {r : Reach} {b0 : Nat} {t : TypeId} {v : Value} {c : C} (ht : P.underlying t = some .string) (hv : Value.okWide P w r b0 t v) (hl : RTs (Old w) [.c c] v.cells.toList) : RT (Old w) (.c c) v := by
  obtain ⟨n, rfl⟩ := okWide_string ht hv
  simp only [RTs, Value.cells] at hl
  obtain ⟨u, vs, h1, h2, _⟩ := hl
  simp at h1
  rw [h1.1]; exact h2
end Go.Proofs.Ytnbijiopcgfmfaa.Tev
