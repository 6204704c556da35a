/- Sizes and descriptors: what the sections' functions and the document's say of them, in plain numbers. -/
import Derived.Test.YticjlkommabcjaaLoops
import Derived.Test.YticjlkommabcjaaPSx1
import Derived.Test.YticjlkommabcjaaPSx2
import Derived.Test.YticjlkommabcjaaPSx3
import Derived.Test.YticjlkommabcjaaPSx4
import Derived.Test.YticjlkommabcjaaPSx11
set_option linter.unusedVariables false
namespace Go.Proofs.Yticjlkommabcjaa.Pure
open Go.RowKit Go.Proofs.YticjlkommabcjaaW.PrintWords Go.Proofs.YticjlkommabcjaaW.PrintMore Go.Proofs.Yticjlkommabcjaa.PS Go.Proofs.Yticjlkommabcjaa.Ar

theorem i64_wf (n : Int) : (Lit.int .i64 n).wf = true ↔ -9223372036854775808 ≤ n ∧ n ≤ 9223372036854775807 := by
  simp [Lit.wf, IntKind.min, IntKind.max, IntKind.signed, IntKind.bits]

theorem isNum_f (n : Int) : section_isNumber.f n = some (decide (-2147483648 ≤ n ∧ n ≤ 2147483648)) := by
  unfold section_isNumber.f
  by_cases h : n ≥ -2147483648
  · rw [if_pos h]
    congr 1
    rw [Bool.eq_iff_iff]
    simp
    omega
  · rw [if_neg h]
    congr 1
    symm
    simp
    omega
theorem near_r (n : Int) : quadratref06_near.f n = some (decide (-2147483648 ≤ n ∧ n ≤ 2147483648)) := isNum_f n

theorem cf_size (l : List Int) (hl : (l.length : Int) ≤ 9223372036854775806) (k : Nat) (hk : l.length < k) : slices_ContainsFunc_g60.f k l = some (l.any fun n => decide (n < 0 ∨ n > 4000)) := by
  unfold slices_ContainsFunc_g60.f slices_IndexFunc_g60.f
  obtain ⟨r, h1, h2⟩ := idx_all rd (fun l i h0 h1 => rd_some h0 h1) (fun n => decide (n < 0 ∨ n > 4000)) slices_IndexFunc_g60.l0 (fun k l n i => by
    simp only [slices_IndexFunc_g60.l0]
    have e : section_size_1.f (rd l i) = some (decide (rd l i < 0 ∨ rd l i > 4000)) := by
      unfold section_size_1.f
      by_cases h : rd l i < 0
      · rw [if_pos h]; simp [h]
      · rw [if_neg h]; congr 1; simp [h]
    rw [e]
    rfl) l hl k hk
  rw [h1]
  simp only [Option.bind_some]
  rw [h2]

theorem cf_valid (l : List Int) (hl : (l.length : Int) ≤ 9223372036854775806) (k : Nat) (hk : l.length < k) : slices_ContainsFunc_g49.f k l = some (l.any fun n => !decide (-2147483648 ≤ n ∧ n ≤ 2147483648)) := by
  unfold slices_ContainsFunc_g49.f slices_IndexFunc_g49.f
  obtain ⟨r, h1, h2⟩ := idx_all rd (fun l i h0 h1 => rd_some h0 h1) (fun n => !decide (-2147483648 ≤ n ∧ n ≤ 2147483648)) slices_IndexFunc_g49.l0 (fun k l n i => by
    simp only [slices_IndexFunc_g49.l0]
    have e : section_Valid_1.f (rd l i) = some (!decide (-2147483648 ≤ rd l i ∧ rd l i ≤ 2147483648)) := by
      unfold section_Valid_1.f
      rw [isNum_f]
      rfl
    rw [e]
    rfl) l hl k hk
  rw [h1]
  simp only [Option.bind_some]
  rw [h2]

/-- Are extents right by themselves? -/
def exts (E : List Int) : Prop := E.length ≤ 3 ∧ ∀ e ∈ E, 0 ≤ e ∧ e ≤ 4000
instance (E : List Int) : Decidable (exts E) := by unfold exts; exact inferInstance
def prod (E : List Int) : Int := E.foldl (· * ·) 1
/-- How many elements extents have; -1: they are none. -/
def sizeOf' (E : List Int) : Int := if exts E ∧ prod E ≤ 4000 then prod E else -1

def B4 : Nat → Int
  | 0 => 1
  | 1 => 4000
  | 2 => 16000000
  | _ => 64000000000
theorem B4_le (n : Nat) : B4 n ≤ 64000000000 := by unfold B4; split <;> omega
theorem B4_succ {n : Nat} (hn : n < 3) : B4 n * 4000 = B4 (n + 1) := by
  have : n = 0 ∨ n = 1 ∨ n = 2 := by omega
  rcases this with rfl | rfl | rfl <;> rfl
theorem B4_step {n : Nat} {a e : Int} (hn : n < 3) (h0 : 0 ≤ a) (h1 : a ≤ B4 n) (e0 : 0 ≤ e) (e1 : e ≤ 4000) : 0 ≤ a * e ∧ a * e ≤ B4 (n + 1) := by
  refine ⟨Int.mul_nonneg h0 e0, ?_⟩
  rw [← B4_succ hn]
  exact Int.mul_le_mul h1 e1 e0 (by unfold B4; split <;> omega)

theorem drop_rd {l : List Int} {i : Int} (h0 : 0 ≤ i) (h1 : i < l.length) : l.drop i.toNat = rd l i :: l.drop (i + 1).toNat := by
  rw [List.drop_eq_getElem_cons (by omega), show (i + 1).toNat = i.toNat + 1 from by omega]
  congr 1
  have := rd_some h0 h1
  rw [List.getElem?_eq_getElem (by omega)] at this
  exact Option.some.inj this

theorem size_loop (l : List Int) (hl : l.length ≤ 3) (hE : ∀ e ∈ l, 0 ≤ e ∧ e ≤ 4000) : ∀ (d k : Nat) (i a : Int), 0 ≤ i → i ≤ l.length → (l.length : Int) - i = d → d < k → 0 ≤ a → a ≤ B4 i.toNat →
    section_size.l0 k a l l.length i = some (if (l.drop i.toNat).foldl (· * ·) a > 4000 then -1 else (l.drop i.toNat).foldl (· * ·) a) ∧
    quadratref06_size.l0 k l a i = some (if (l.drop i.toNat).foldl (· * ·) a > 4000 then -1 else (l.drop i.toNat).foldl (· * ·) a) := by
  intro d
  induction d with
  | zero =>
    intro k i a h0 h1 hd hk ha hb
    obtain ⟨k, rfl⟩ : ∃ m, k = m + 1 := ⟨k - 1, by omega⟩
    rw [List.drop_eq_nil_of_le (by omega)]
    simp only [section_size.l0, quadratref06_size.l0, List.foldl_nil]
    constructor
    · rw [if_neg (show ¬ i < (l.length : Int) by omega)]
      by_cases c : a > 4000 <;> simp [c]
    · rw [if_neg (show ¬ i < (l.length : Int) by omega)]
      by_cases c : a > 4000 <;> simp [c]
  | succ d ih =>
    intro k i a h0 h1 hd hk ha hb
    obtain ⟨k, rfl⟩ : ∃ m, k = m + 1 := ⟨k - 1, by omega⟩
    have hlt : i < (l.length : Int) := by omega
    obtain ⟨e0, e1⟩ := hE _ (rd_mem h0 hlt)
    obtain ⟨b0, b1⟩ := B4_step (n := i.toNat) (by omega) ha hb e0 e1
    have b2 := B4_le (i.toNat + 1)
    have hi1 : (i + 1).toNat = i.toNat + 1 := by omega
    obtain ⟨r1, r2⟩ := ih k (i + 1) (a * rd l i) (by omega) (by omega) (by omega) (by omega) b0 (by rw [hi1]; exact b1)
    rw [drop_rd h0 hlt]
    simp only [section_size.l0, quadratref06_size.l0, List.foldl_cons]
    rw [if_pos hlt, if_pos h0, if_neg (show ¬ rd l i < 0 by omega), if_neg (show ¬ rd l i > 4000 by omega), w64 (x := a * rd l i) (by omega) (by omega), w64 (x := i + 1) (by omega) (by omega)]
    exact ⟨by rw [if_pos hlt]; exact r1, by rw [if_pos hlt, if_pos h0]; exact r2⟩

theorem size_ref_bad (l : List Int) (hl : l.length ≤ 3) : ∀ (d k : Nat) (i a : Int), 0 ≤ i → i ≤ l.length → (l.length : Int) - i = d → d < k → (∃ e ∈ l.drop i.toNat, e < 0 ∨ e > 4000) → 0 ≤ a → a ≤ B4 i.toNat → quadratref06_size.l0 k l a i = some (-1) := by
  intro d
  induction d with
  | zero =>
    intro k i a h0 h1 hd hk he
    rw [List.drop_eq_nil_of_le (by omega)] at he
    obtain ⟨e, h, _⟩ := he
    cases h
  | succ d ih =>
    intro k i a h0 h1 hd hk he ha hb
    obtain ⟨k, rfl⟩ : ∃ m, k = m + 1 := ⟨k - 1, by omega⟩
    have hlt : i < (l.length : Int) := by omega
    simp only [quadratref06_size.l0]
    rw [if_pos hlt, if_pos h0]
    by_cases c1 : rd l i < 0
    · rw [if_pos c1]
    · rw [if_neg c1]
      by_cases c2 : rd l i > 4000
      · rw [if_pos c2]
      · rw [if_neg c2]
        obtain ⟨b0, b1⟩ := B4_step (n := i.toNat) (by omega) ha hb (by omega : 0 ≤ rd l i) (by omega)
        have b2 := B4_le (i.toNat + 1)
        have hi1 : (i + 1).toNat = i.toNat + 1 := by omega
        rw [w64 (x := a * rd l i) (by omega) (by omega), w64 (x := i + 1) (by omega) (by omega)]
        refine ih k (i + 1) _ (by omega) (by omega) (by omega) (by omega) ?_ b0 (by rw [hi1]; exact b1)
        rw [drop_rd h0 hlt] at he
        obtain ⟨e, h, h2⟩ := he
        rcases List.mem_cons.1 h with rfl | h
        · omega
        · exact ⟨e, h, h2⟩

theorem size_f (E : List Int) (k : Nat) (hk : 20 ≤ k) : section_size.f k E = some (sizeOf' E) := by
  unfold section_size.f sizeOf' exts
  obtain ⟨k, rfl⟩ : ∃ m, k = m + 1 := ⟨k - 1, by omega⟩
  by_cases h3 : (E.length : Int) > 3
  · rw [if_pos h3]
    simp only [section_size.j0, if_true]
    rw [if_neg (by omega)]
  · rw [if_neg h3, cf_size E (by omega) _ (by omega)]
    simp only [Option.bind_some, section_size.j0]
    by_cases hb : (E.any fun n => decide (n < 0 ∨ n > 4000)) = true
    · rw [if_pos hb, if_neg]
      rintro ⟨⟨_, h⟩, _⟩
      obtain ⟨e, he, he2⟩ := List.any_eq_true.1 hb
      have := h e he
      simp at he2
      omega
    · rw [if_neg hb]
      have hE : ∀ e ∈ E, 0 ≤ e ∧ e ≤ 4000 := by
        intro e he
        refine Decidable.byContradiction fun hc => hb (List.any_eq_true.2 ⟨e, he, ?_⟩)
        simp
        omega
      have := (size_loop E (by omega) hE E.length k 0 1 (by omega) (by omega) (by omega) (by omega) (by omega) (by show (1 : Int) ≤ 1; omega)).1
      rw [this]
      show some (if prod E > 4000 then -1 else prod E) = _
      congr 1
      by_cases hp : prod E > 4000
      · rw [if_pos hp, if_neg (by omega)]
      · rw [if_neg hp, if_pos ⟨⟨by omega, hE⟩, by omega⟩]

theorem size_r (E : List Int) (k : Nat) (hk : 20 ≤ k) : quadratref06_size.f k E = some (sizeOf' E) := by
  unfold quadratref06_size.f sizeOf' exts
  by_cases h3 : (E.length : Int) > 3
  · rw [if_pos h3, if_neg (by omega)]
  · rw [if_neg h3]
    by_cases hE : ∀ e ∈ E, 0 ≤ e ∧ e ≤ 4000
    · have := (size_loop E (by omega) hE E.length k 0 1 (by omega) (by omega) (by omega) (by omega) (by omega) (by show (1 : Int) ≤ 1; omega)).2
      rw [this]
      show some (if prod E > 4000 then -1 else prod E) = _
      congr 1
      by_cases hp : prod E > 4000
      · rw [if_pos hp, if_neg (by omega)]
      · rw [if_neg hp, if_pos ⟨⟨by omega, hE⟩, by omega⟩]
    · rw [if_neg (by intro h; exact hE h.1.2)]
      refine size_ref_bad E (by omega) E.length k 0 1 (by omega) (by omega) (by omega) (by omega) ?_ (by omega) (by show (1 : Int) ≤ 1; omega)
      refine Decidable.byContradiction fun hc => hE fun e he => Decidable.byContradiction fun hx => hc ⟨e, by simpa using he, by omega⟩

theorem size_none {E : List Int} : sizeOf' E < 0 ↔ ¬ (exts E ∧ prod E ≤ 4000) := by
  unfold sizeOf'
  constructor
  · intro h hc
    rw [if_pos hc] at h
    have : ∀ (l : List Int) (a : Int), 0 ≤ a → (∀ e ∈ l, 0 ≤ e ∧ e ≤ 4000) → 0 ≤ l.foldl (· * ·) a := by
      intro l
      induction l with
      | nil => intro a ha _; exact ha
      | cons x l ih => intro a ha hl; exact ih _ (Int.mul_nonneg ha (hl x (by simp)).1) (fun e he => hl e (by simp [he]))
    have := this E 1 (by omega) hc.1.2
    unfold prod at h
    omega
  · intro h
    rw [if_neg h]
    omega
end Go.Proofs.Yticjlkommabcjaa.Pure
