/- What came in, opened by its kind: an argument that can be read as data is a value of the printed kinds. Plain lemmas over any program. -/
import Derived.Test.YticjlkommabcjaaWWords
import Derived.Test.YticjlkommabcjaaWLast
import Derived.SizedLaws
import Derived.ChangeSlices
import Derived.ChangeArms
import Derived.OpenShut
import Derived.Lib.SmallJoins
set_option linter.unusedVariables false
namespace Go.Proofs.Yticjlkommabcjaa.Opn
open Go.RowKit Go.ChangeShapes Go.WideShapes Go.Proofs.YticjlkommabcjaaW.PrintWords

/-- Whatever reads as a value of type t is of the kind d, and within its bounds. -/
def Opens {α : Type} (P : Program) (w : World) (t : TypeId) (d : Kd α) (I : α → Prop) : Prop :=
  ∀ (H : Type) (enc : TypeId × Value → H) (fuel : Nat) (cs : List Value) (x : DataW H × List MemPlace), DataW.trod enc P w 0 (fun _ => true) true fuel t cs = some x →
    (∀ n ∈ x.1.weights P t, n ≤ reachBytes) → ∃ a : α, d.K w a cs ∧ I a

theorem opens_int {P : Program} {w : World} {t : TypeId} {k : IntKind} (ht : P.underlying t = some (.int k)) : Opens P w t (Kd.int k) (fun a => (Lit.int k a).wf = true) := by
  intro H enc fuel cs x h _
  obtain ⟨n, rfl, _, hw⟩ := DataW.trod_int ht h
  exact ⟨n, rfl, hw⟩

theorem opens_bool {P : Program} {w : World} {t : TypeId} (ht : P.underlying t = some .bool) : Opens P w t Kd.bool (fun _ => True) := by
  intro H enc fuel cs x h _
  obtain ⟨b, rfl, _⟩ := DataW.trod_bool ht h
  exact ⟨b, rfl, trivial⟩

theorem opens_string {P : Program} {w : World} {t : TypeId} (ht : P.underlying t = some .string) : Opens P w t Kd.string (fun s => s.size ≤ 140737488351232) := by
  intro H enc fuel cs x h hz
  obtain ⟨s, rfl, rfl, _⟩ := DataW.trod_string ht h
  refine ⟨s, rfl, ?_⟩
  have := hz s.data.toList.length (by simp [DataW.weights])
  simpa [reachBytes] using this

theorem weights_all {H : Type} {P : Program} {e : TypeId} : ∀ {l : List (DataW H)} {d : DataW H}, d ∈ l → ∀ n ∈ d.weights P e, n ∈ DataW.weightsAll P e l
  | x :: r, d, hd, n, hn => by
    simp only [DataW.weightsAll, List.mem_append]
    rcases List.mem_cons.1 hd with rfl | hd
    · exact .inl hn
    · exact .inr (weights_all hd n hn)

theorem add_add (a : Addr) (m n : Nat) : a.add (m + n) = (a.add m).add n := by
  unfold Addr.add
  by_cases hm : m = 0 <;> by_cases hn : n = 0 <;> simp_all <;> omega

theorem choose_list {β : Type} {p : Nat → β → Prop} (n : Nat) (h : ∀ i, i < n → ∃ y, p i y) : ∃ l : List β, l.length = n ∧ ∀ i y, l[i]? = some y → p i y := by
  induction n with
  | zero => exact ⟨[], rfl, fun i y hi => by simp at hi⟩
  | succ n ih =>
    obtain ⟨l, hl, hp⟩ := ih (fun i hi => h i (by omega))
    obtain ⟨y, hy⟩ := h n (by omega)
    refine ⟨l ++ [y], by simp [hl], fun i z hz => ?_⟩
    by_cases hi : i < n
    · rw [List.getElem?_append_left (by omega)] at hz
      exact hp i z hz
    · have : i = n := by
        have := (List.getElem?_eq_some_iff.1 hz).1
        simp at this
        omega
      subst this
      rw [List.getElem?_append_right (by omega), hl] at hz
      simp at hz
      subst hz
      exact hy

theorem opens_slice {α : Type} {P : Program} {w : World} {t e : TypeId} {d : Kd α} {I : α → Prop} {B : Nat} (ht : P.underlying t = some (.slice e)) (he : Opens P w e d I) (hc : P.cellsOf e = d.sz) (hB : P.bytesOf e = B) :
    Opens P w t (Kd.slice e d) (fun l => l.length * B ≤ 140737488351232 ∧ ∀ x ∈ l, I x) := by
  intro H enc fuel cs x h hz
  rcases DataW.trod_slice ht h with ⟨rfl, rfl⟩ | ⟨a, len, cap, elems, rest, n, _, rfl, rfl, hb, hl, hm, hlen, hel, hsp, hns⟩
  · refine ⟨[], ⟨none, 0, rfl, Nat.le_refl _, rfl, by simp, fun h => by simp at h⟩, by simp, fun x hx => by simp at hx⟩
  · have hw : (elems.length + rest.length) * B ≤ reachBytes := by
      have := hz ((elems.length + rest.length) * B) (by simp [DataW.weights, ht, hB])
      exact this
    have hin : ∀ i, i < len → ∃ y : α, I y ∧ ∃ c, c.length = d.sz ∧ d.K w y c ∧ ∀ j u, c[j]? = some u → w.cell? (a.add (i * d.sz + j)) = some u := by
      intro i hi
      have h1 := hel i hi
      obtain ⟨x, hx⟩ : ∃ x, elems[i]? = some x := ⟨elems[i]'(by omega), List.getElem?_eq_getElem (by omega)⟩
      rw [hx, Option.bind_eq_some_iff] at h1
      obtain ⟨c, hc1, hc2⟩ := h1
      obtain ⟨y, hK, hI⟩ := he H enc n c x hc2 (fun m hm' => hz m (by
        simp only [DataW.weights, ht, List.mem_cons, List.mem_append]
        exact .inr (.inl (weights_all (List.mem_map_of_mem (List.mem_of_getElem? hx)) m hm'))))
      obtain ⟨_, hlen2, hcell⟩ := World.cells?_some hc1
      refine ⟨y, hI, c, d.K_len hK, hK, fun j u hj => ?_⟩
      have hjl : j < P.cellsOf e := by
        have := (List.getElem?_eq_some_iff.1 hj).1
        have h3 := d.K_len hK
        omega
      have h2 := hcell j hjl
      rw [hc] at h2
      rw [add_add, h2, hj]
    obtain ⟨l, hll, hlp⟩ := choose_list len hin
    have hle : len * B ≤ 140737488351232 := Nat.le_trans (Nat.mul_le_mul_right _ (by omega)) hw
    subst hll
    refine ⟨l, ⟨some a, cap, rfl, hl, rfl, ?_, fun _ => ⟨a, rfl, fun j p hp => (hlp j p hp).2⟩⟩, hle, fun x hx => ?_⟩
    · have : maxLen = 9223372036854775807 := rfl
      omega
    · obtain ⟨i, hi⟩ := List.getElem?_of_mem hx
      exact (hlp i x hi).1

/-- The fields of a struct from the cell o on. -/
def OpensF {α : Type} (P : Program) (w : World) (fs : List Field) (o : Nat) (d : Kd α) (I : α → Prop) : Prop :=
  ∀ (H : Type) (enc : TypeId × Value → H) (fuel : Nat) (cs : List Value) (xs : List (DataW H × List MemPlace)), xs.length = fs.length →
    (∀ (i : Nat) (f : Field), fs[i]? = some f → DataW.trod enc P w 0 (fun _ => true) true fuel f.type ((cs.drop f.offset).take (P.cellsOf f.type)) = xs[i]?) →
    (∀ n ∈ DataW.weightsEach P (fs.map (·.type)) (xs.map (·.1)), n ≤ reachBytes) → ∃ a : α, d.K w a ((cs.drop o).take d.sz) ∧ I a

theorem opensF_one {α : Type} {P : Program} {w : World} {f : Field} {o : Nat} {d : Kd α} {I : α → Prop} (h : Opens P w f.type d I) (ho : f.offset = o) (hc : P.cellsOf f.type = d.sz) : OpensF P w [f] o d I := by
  intro H enc fuel cs xs hl hx hz
  match xs, hl with
  | [x], _ =>
    have h1 := hx 0 f rfl
    rw [ho, hc] at h1
    exact h H enc fuel _ x h1 (fun n hn => hz n (by simp [DataW.weightsEach, hn]))

theorem opensF_cons {α β : Type} {P : Program} {w : World} {f : Field} {fs : List Field} {o o2 : Nat} {d : Kd α} {d2 : Kd β} {I : α → Prop} {I2 : β → Prop} (h : Opens P w f.type d I) (ho : f.offset = o) (hc : P.cellsOf f.type = d.sz)
    (h2 : OpensF P w fs o2 d2 I2) (h12 : o2 = o + d.sz) : OpensF P w (f :: fs) o (Kd.pair d d2) (fun x => I x.1 ∧ I2 x.2) := by
  intro H enc fuel cs xs hl hx hz
  match xs, hl with
  | x :: r, hl =>
    have h1 := hx 0 f rfl
    rw [ho, hc] at h1
    obtain ⟨a, hK, hI⟩ := h H enc fuel _ x h1 (fun n hn => hz n (by simp [DataW.weightsEach, hn]))
    obtain ⟨b, hK2, hI2⟩ := h2 H enc fuel cs r (by simpa using hl) (fun i g hg => hx (i + 1) g (by simpa using hg)) (fun n hn => hz n (by simp only [List.map_cons, DataW.weightsEach, List.mem_append]; exact .inr hn))
    refine ⟨(a, b), ⟨_, _, ?_, hK, hK2⟩, hI, hI2⟩
    show (cs.drop o).take (d.sz + d2.sz) = _
    rw [List.take_add, List.drop_drop, h12]

theorem opens_struct {α β : Type} {P : Program} {w : World} {t : TypeId} {fs : Array Field} {d : Kd α} {I : α → Prop} (ht : P.underlying t = some (.struct fs)) (h : OpensF P w fs.toList 0 d I) (hc : P.cellsOf t = d.sz) (f : β → α) (g : α → β) (hfg : ∀ a, f (g a) = a) :
    Opens P w t (Kd.iso d f) (fun b => I (f b)) := by
  intro H enc fuel cs x hx hz
  obtain ⟨xs, n, _, rfl, hl, hlen, hf⟩ := DataW.trod_struct ht hx
  obtain ⟨a, hK, hI⟩ := h H enc n cs xs (by simpa using hlen) (fun i g hg => hf i g (by simpa using hg)) (fun m hm => hz m (by simp only [DataW.weights, ht]; exact hm))
  refine ⟨g a, ?_, by show I (f (g a)); rw [hfg]; exact hI⟩
  show d.K w (f (g a)) cs
  rw [hfg]
  rw [List.drop_zero, List.take_of_length_le (by omega)] at hK
  exact hK

theorem opens_mono {α : Type} {P : Program} {w : World} {t : TypeId} {d : Kd α} {I I' : α → Prop} (h : Opens P w t d I) (hi : ∀ a, I a → I' a) : Opens P w t d I' := by
  intro H enc fuel cs x hx hz
  obtain ⟨a, hK, hI⟩ := h H enc fuel cs x hx hz
  exact ⟨a, hK, hi a hI⟩

/-- An argument, opened. -/
theorem arg_open {α H : Type} {enc : TypeId × Value → H} {P : Program} {w : World} {t : TypeId} {d : Kd α} {I : α → Prop} (h : Opens P w t d I) {v : Value} {x : DataW H} {ps : List MemPlace} {ts : List TypeId} {ds : List (DataW H)} {j : Nat}
    (hr : DataW.Trod enc P w 0 (fun _ => true) true t v x ps) (hsz : (DataW.weightsEach P ts ds).all (· ≤ reachBytes) = true) (ht : ts[j]? = some t) (hd : ds[j]? = some x) : ∃ a : α, d.K w a v.cells.toList ∧ I a := by
  obtain ⟨fuel, hf⟩ := hr
  refine h H enc fuel _ (x, ps) hf (fun n hn => ?_)
  have := List.all_eq_true.1 hsz n (DataW.weights_mem_each ht hd n hn)
  simpa using this
/-- A struct's value by its cells. -/
theorem agg_of {P : Program} {w : World} {r : Reach} {b0 : Nat} {t : TypeId} {fs : Array Field} {v : Value} {l : List Value} (ht : P.underlying t = some (.struct fs)) (hv : Value.okWide P w r b0 t v) (hl : v.cells.toList = l) : v = .agg l.toArray := by
  obtain ⟨cs, rfl, _⟩ := okWide_struct ht hv
  have : cs.toList = l := hl
  rw [← this]
theorem slice_of {P : Program} {w : World} {r : Reach} {b0 : Nat} {t e : TypeId} {v : Value} {α : Type} {d : Kd α} {xs : List α} (ht : P.underlying t = some (.slice e)) (hv : Value.okWide P w r b0 t v) (hl : (Kd.slice e d).K w xs v.cells.toList) :
    ∃ A c, v = .slice A xs.length c ∧ xs.length ≤ c ∧ d.C w A xs.length xs := by
  obtain ⟨a, len, cap, rfl⟩ := okWide_slice ht hv
  obtain ⟨A, c, hc, h1, h2⟩ := hl
  simp [Value.cells] at hc
  obtain ⟨rfl, rfl, rfl⟩ := hc
  exact ⟨_, _, rfl, h1, h2⟩
end Go.Proofs.Yticjlkommabcjaa.Opn
