/- Loops over lists, in general: a search; what comes out for enough rounds. -/
import Derived.Test.YticjlkommabcjaaArith
import Derived.Test.YticjlkommabcjaaWWords
set_option linter.unusedVariables false
namespace Go.Proofs.Yticjlkommabcjaa.Ar
open Go.RowKit Go.Proofs.YticjlkommabcjaaW.PrintWords Go.Proofs.YticjlkommabcjaaW.PrintMore

theorem rd_some {l : List Int} {i : Int} (h0 : 0 ≤ i) (h1 : i < l.length) : l[i.toNat]? = some (rd l i) := by
  unfold rd
  rw [List.getD_eq_getElem?_getD, List.getElem?_eq_getElem (show i.toNat < l.length by omega)]
  rfl
theorem rd_mem {l : List Int} {i : Int} (h0 : 0 ≤ i) (h1 : i < l.length) : rd l i ∈ l := List.mem_of_getElem? (rd_some h0 h1)
theorem rd_idx (l : List Int) (j : Nat) (hj : j < l.length) : l[j]? = some (rd l j) := by
  simp [rd, List.getD_eq_getElem?_getD, List.getElem?_eq_getElem hj]

/-- The library's search for the first element with a property. -/
theorem idx_gen {α : Type} (R : List α → Int → α) (hR : ∀ l i, 0 ≤ i → i < (l.length : Int) → l[i.toNat]? = some (R l i)) (p : α → Bool) (F : Nat → List α → Int → Int → Option Int)
    (hF : ∀ k l n i, F (k + 1) l n i = if i < n then (if 0 ≤ i then (if i < (l.length : Int) then (if p (R l i) = true then some i else F k l n (wrap64 (i + 1))) else none) else none) else some (-1))
    (l : List α) (hl : (l.length : Int) ≤ 9223372036854775806) : ∀ (d k : Nat) (i : Int), 0 ≤ i → i ≤ l.length → (l.length : Int) - i = d → d < k →
    ∃ r, F k l l.length i = some r ∧ decide (r ≥ 0) = (l.drop i.toNat).any p := by
  intro d
  induction d with
  | zero =>
    intro k i h0 h1 hd hk
    obtain ⟨k, rfl⟩ : ∃ m, k = m + 1 := ⟨k - 1, by omega⟩
    refine ⟨-1, by rw [hF, if_neg (by omega)], ?_⟩
    rw [List.drop_eq_nil_of_le (by omega)]
    simp
  | succ d ih =>
    intro k i h0 h1 hd hk
    obtain ⟨k, rfl⟩ : ∃ m, k = m + 1 := ⟨k - 1, by omega⟩
    have hlt : i < (l.length : Int) := by omega
    have hd1 : l.drop i.toNat = R l i :: l.drop (i.toNat + 1) := by
      have := hR l i h0 hlt
      rw [List.drop_eq_getElem_cons (by omega)]
      rw [List.getElem?_eq_getElem (by omega)] at this
      rw [Option.some.inj this]
    rw [hF, if_pos hlt, if_pos h0, if_pos hlt, hd1]
    by_cases hp : p (R l i) = true
    · rw [if_pos hp]
      exact ⟨i, rfl, by simp [hp, h0]⟩
    · rw [if_neg hp, w64 (by omega) (by omega)]
      obtain ⟨r, hr, hi⟩ := ih k (i + 1) (by omega) (by omega) (by omega) (by omega)
      refine ⟨r, hr, ?_⟩
      rw [hi, show (i + 1).toNat = i.toNat + 1 from by omega]
      simp [hp]

theorem idx_all {α : Type} (R : List α → Int → α) (hR : ∀ l i, 0 ≤ i → i < (l.length : Int) → l[i.toNat]? = some (R l i)) (p : α → Bool) (F : Nat → List α → Int → Int → Option Int)
    (hF : ∀ k l n i, F (k + 1) l n i = if i < n then (if 0 ≤ i then (if i < (l.length : Int) then (if p (R l i) = true then some i else F k l n (wrap64 (i + 1))) else none) else none) else some (-1))
    (l : List α) (hl : (l.length : Int) ≤ 9223372036854775806) (k : Nat) (hk : l.length < k) : ∃ r, F k l l.length 0 = some r ∧ decide (r ≥ 0) = l.any p := by
  obtain ⟨r, h1, h2⟩ := idx_gen R hR p F hF l hl l.length k 0 (by omega) (by omega) (by omega) hk
  exact ⟨r, h1, by simpa using h2⟩

/-- For enough rounds. -/
def Evt {α : Type} (g : Nat → Option α) (r : α) : Prop := ∃ K, ∀ k, K ≤ k → g k = some r
theorem Evt.of {α : Type} {g : Nat → Option α} {r : α} (K : Nat) (h : ∀ k, K ≤ k → g k = some r) : Evt g r := ⟨K, h⟩
theorem Evt.now {α : Type} {r : α} : Evt (fun _ => some r) r := ⟨0, fun _ _ => rfl⟩
theorem Evt.step {α : Type} {g f : Nat → Option α} {r : α} (h : ∀ k, g (k + 1) = f k) (hf : Evt f r) : Evt g r := by
  obtain ⟨K, hK⟩ := hf
  exact ⟨K + 1, fun k hk => by obtain ⟨m, rfl⟩ : ∃ m, k = m + 1 := ⟨k - 1, by omega⟩; rw [h]; exact hK m (by omega)⟩
theorem Evt.congr {α : Type} {g f : Nat → Option α} {r : α} (h : ∀ k, g k = f k) (hf : Evt f r) : Evt g r := by
  obtain ⟨K, hK⟩ := hf
  exact ⟨K, fun k hk => by rw [h]; exact hK k hk⟩
theorem Evt.bind {α β : Type} {g : Nat → Option α} {f : Nat → α → Option β} {a : α} {r : β} (h : Evt g a) (hf : Evt (fun k => f k a) r) : Evt (fun k => (g k).bind (f k)) r := by
  obtain ⟨K, hK⟩ := h
  obtain ⟨L, hL⟩ := hf
  exact ⟨max K L, fun k hk => by show (g k).bind (f k) = some r; rw [hK k (by omega)]; exact hL k (by omega)⟩
theorem Evt.ex {α : Type} {g : Nat → Option α} {r : α} (h : Evt g r) : ∃ k, g k = some r := by
  obtain ⟨K, hK⟩ := h
  exact ⟨K, hK K (Nat.le_refl _)⟩
theorem Evt.mono {α : Type} {g : Nat → Option α} {r : α} (hg : ∀ k, LeO (g k) (g (k + 1))) {k : Nat} (h : g k = some r) : Evt g r := ⟨k, fun _ hk => at_rounds hg hk h⟩
theorem Evt.uniq {α : Type} {g : Nat → Option α} {r s : α} (h : Evt g r) (h' : Evt g s) : r = s := by
  obtain ⟨K, hK⟩ := h
  obtain ⟨L, hL⟩ := h'
  have a := hK (max K L) (by omega)
  have b := hL (max K L) (by omega)
  exact Option.some.inj (a.symm.trans b)
end Go.Proofs.Yticjlkommabcjaa.Ar
