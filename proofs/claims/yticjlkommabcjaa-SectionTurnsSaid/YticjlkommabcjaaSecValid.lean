/- Which descriptors are valid: by their ends, as the code reckons them, and by all their places, as the document does. -/
import Derived.Test.YticjlkommabcjaaSecLib
import Derived.Test.YticjlkommabcjaaPSx4
import Derived.Test.YticjlkommabcjaaPSx5
set_option linter.unusedVariables false
namespace Go.Proofs.Yticjlkommabcjaa.Pure
open Go.RowKit Go.Proofs.YticjlkommabcjaaW.PrintWords Go.Proofs.YticjlkommabcjaaW.PrintMore Go.Proofs.Yticjlkommabcjaa.PS Go.Proofs.Yticjlkommabcjaa.Ar

def lows : List Int → List Int → Int
  | n :: E, s :: S => mn (s * (n - 1)) 0 + lows E S
  | _, _ => 0
def highs : List Int → List Int → Int
  | n :: E, s :: S => mx (s * (n - 1)) 0 + highs E S
  | _, _ => 0
def nearS (n : Int) : Prop := -2147483648 ≤ n ∧ n ≤ 2147483648
instance (n : Int) : Decidable (nearS n) := by unfold nearS; exact inferInstance

theorem lows_drop {E S : List Int} {i : Int} (h0 : 0 ≤ i) (h1 : i < E.length) (hS : S.length = E.length) : lows (E.drop i.toNat) (S.drop i.toNat) = mn (rd S i * (rd E i - 1)) 0 + lows (E.drop (i + 1).toNat) (S.drop (i + 1).toNat) := by
  rw [drop_rd h0 h1, drop_rd (l := S) h0 (by omega)]
  rfl
theorem highs_drop {E S : List Int} {i : Int} (h0 : 0 ≤ i) (h1 : i < E.length) (hS : S.length = E.length) : highs (E.drop i.toNat) (S.drop i.toNat) = mx (rd S i * (rd E i - 1)) 0 + highs (E.drop (i + 1).toNat) (S.drop (i + 1).toNat) := by
  rw [drop_rd h0 h1, drop_rd (l := S) h0 (by omega)]
  rfl

theorem mn_bd {x A : Int} (h1 : -A ≤ x) (h2 : x ≤ A) (hA : 0 ≤ A) : -A ≤ mn x 0 ∧ mn x 0 ≤ 0 := by unfold mn; split <;> omega
theorem mx_bd {x A : Int} (h1 : -A ≤ x) (h2 : x ≤ A) (hA : 0 ≤ A) : 0 ≤ mx x 0 ∧ mx x 0 ≤ A := by unfold mx; split <;> omega

theorem way_bd {s n : Int} (hs : nearS s) (h0 : 0 ≤ n) (h1 : n ≤ 4000) : -9000000000000 ≤ s * (n - 1) ∧ s * (n - 1) ≤ 9000000000000 := by
  unfold nearS at hs
  have := mul_bd (A := 2147483648) (B := 4000) hs.1 hs.2 (show -4000 ≤ n - 1 by omega) (by omega)
  omega

theorem ends_loop (base : Int) (E S : List Int) (hl : E.length ≤ 3) (hS : S.length = E.length) (hE : ∀ e ∈ E, 0 ≤ e ∧ e ≤ 4000) (hN : ∀ s ∈ S, nearS s) : ∀ (d k : Nat) (i x y : Int), 0 ≤ i → i ≤ E.length → (E.length : Int) - i = d → d < k →
    -100000000000000 + 10000000000000 * d ≤ x → x ≤ 100000000000000 - 10000000000000 * d → -100000000000000 + 10000000000000 * d ≤ y → y ≤ 100000000000000 - 10000000000000 * d →
    section_ends.l0 k x y S S.length i base E S = some (x + lows (E.drop i.toNat) (S.drop i.toNat), y + highs (E.drop i.toNat) (S.drop i.toNat)) := by
  intro d
  induction d with
  | zero =>
    intro k i x y h0 h1 hd hk a1 a2 a3 a4
    obtain ⟨k, rfl⟩ : ∃ m, k = m + 1 := ⟨k - 1, by omega⟩
    simp only [section_ends.l0]
    rw [if_neg (by omega), List.drop_eq_nil_of_le (by omega)]
    simp [lows, highs]
  | succ d ih =>
    intro k i x y h0 h1 hd hk a1 a2 a3 a4
    obtain ⟨k, rfl⟩ : ∃ m, k = m + 1 := ⟨k - 1, by omega⟩
    have hlt : i < (E.length : Int) := by omega
    have hltS : i < (S.length : Int) := by omega
    obtain ⟨e0, e1⟩ := hE _ (rd_mem h0 hlt)
    have ns := hN _ (rd_mem h0 hltS)
    obtain ⟨w1, w2⟩ := way_bd ns e0 e1
    obtain ⟨b1, b2⟩ := mn_bd (A := 9000000000000) w1 w2 (by omega)
    obtain ⟨b3, b4⟩ := mx_bd (A := 9000000000000) w1 w2 (by omega)
    simp only [section_ends.l0]
    rw [if_pos hltS, if_pos h0, if_pos hltS, if_pos hlt, w64 (x := rd E i - 1) (by omega) (by omega), w64 (x := rd S i * (rd E i - 1)) (by omega) (by omega), w64 (x := i + 1) (by omega) (by omega), lows_drop h0 hlt hS, highs_drop h0 hlt hS]
    generalize mn (rd S i * (rd E i - 1)) 0 = p at b1 b2 ⊢
    generalize mx (rd S i * (rd E i - 1)) 0 = q at b3 b4 ⊢
    rw [w64 (x := x + p) (by omega) (by omega), w64 (x := y + q) (by omega) (by omega), ih k (i + 1) (x + p) (y + q) (by omega) (by omega) (by omega) (by omega) (by omega) (by omega) (by omega) (by omega)]
    congr 2 <;> omega

/-- A descriptor is valid. -/
def okD (base : Int) (E S : List Int) : Prop := exts E ∧ prod E ≤ 4000 ∧ S.length = E.length ∧ 0 ≤ base ∧ (∀ s ∈ S, nearS s) ∧ (prod E = 0 ∨ (base ≤ 2147483648 ∧ 0 ≤ base + lows E S ∧ base + highs E S ≤ 2147483648))
instance (base : Int) (E S : List Int) : Decidable (okD base E S) := by unfold okD; exact inferInstance

theorem any_near (S : List Int) : (S.any fun n => !decide (-2147483648 ≤ n ∧ n ≤ 2147483648)) = !decide (∀ s ∈ S, nearS s) := by
  by_cases h : ∀ s ∈ S, nearS s
  · rw [decide_eq_true h, Bool.not_true, List.any_eq_false]
    intro x hx
    have := h x hx
    unfold nearS at this
    simp [this]
  · rw [decide_eq_false h, Bool.not_false, List.any_eq_true]
    obtain ⟨x, hx⟩ := Classical.not_forall.1 h
    obtain ⟨hm, hn⟩ := Classical.not_imp.1 hx
    unfold nearS at hn
    exact ⟨x, hm, by simp only [decide_eq_false hn, Bool.not_false]⟩

theorem valid_f (base : Int) (E S : List Int) (hb : base ≤ 9223372036854775807) (hSl : (S.length : Int) ≤ 9223372036854775806) (k : Nat) (hk : 30 ≤ k) : section_Valid.f k base E S = some (decide (okD base E S)) := by
  unfold section_Valid.f
  obtain ⟨k, rfl⟩ : ∃ m, k = m + 1 := ⟨k - 1, by omega⟩
  rw [size_f E _ (by omega)]
  simp only [Option.bind_some, section_Valid.j0, if_true]
  by_cases h1 : sizeOf' E < 0
  · rw [if_pos h1]
    congr 1
    symm
    rw [decide_eq_false_iff_not]
    exact fun h => size_none.1 h1 ⟨h.1, h.2.1⟩
  · rw [if_neg h1]
    have hE : exts E ∧ prod E ≤ 4000 := Decidable.byContradiction fun hc => h1 (size_none.2 hc)
    have hsz : sizeOf' E = prod E := by unfold sizeOf'; rw [if_pos hE]
    by_cases h2 : (S.length : Int) = E.length
    · rw [if_pos h2]
      by_cases h3 : base < 0
      · rw [if_pos h3]
        congr 1
        symm
        rw [decide_eq_false_iff_not]
        exact fun h => by have := h.2.2.2.1; omega
      · rw [if_neg h3, cf_valid S hSl _ (by have := hE.1.1; omega), any_near]
        simp only [Option.bind_some]
        by_cases h4 : ∀ s ∈ S, nearS s
        · rw [decide_eq_true h4]
          simp only [Bool.not_true, if_neg (show ¬ (false = true) by decide)]
          rw [hsz]
          by_cases h5 : prod E = 0
          · rw [if_pos h5]
            congr 1
            symm
            rw [decide_eq_true_eq]
            exact ⟨hE.1, hE.2, by omega, by omega, h4, .inl h5⟩
          · rw [if_neg h5]
            by_cases h6 : base > 2147483648
            · rw [if_pos h6]
              congr 1
              symm
              rw [decide_eq_false_iff_not]
              rintro ⟨_, _, _, _, _, h | h⟩
              · exact h5 h
              · omega
            · rw [if_neg h6]
              unfold section_ends.f
              have hl3 := hE.1.1
              rw [ends_loop base E S hE.1.1 (by omega) hE.1.2 h4 E.length k 0 base base (by omega) (by omega) (by omega) (by omega) (by omega) (by omega) (by omega) (by omega)]
              simp only [Option.bind_some, Int.toNat_zero, List.drop_zero]
              have key : okD base E S ↔ (0 ≤ base + lows E S ∧ base + highs E S ≤ 2147483648) :=
                ⟨fun h => by rcases h.2.2.2.2.2 with h | h; exact absurd h h5; exact h.2, fun h => ⟨hE.1, hE.2, by omega, by omega, h4, .inr ⟨by omega, h⟩⟩⟩
              by_cases h7 : base + lows E S ≥ 0
              · rw [if_pos h7]
                congr 1
                rw [Bool.eq_iff_iff, decide_eq_true_eq, decide_eq_true_eq, key]
                omega
              · rw [if_neg h7]
                congr 1
                symm
                rw [decide_eq_false_iff_not, key]
                omega
        · rw [decide_eq_false h4]
          simp only [Bool.not_false, if_true]
          congr 1
          symm
          rw [decide_eq_false_iff_not]
          exact fun h => h4 h.2.2.2.2.1
    · rw [if_neg h2]
      congr 1
      symm
      rw [decide_eq_false_iff_not]
      exact fun h => by have := h.2.2.1; omega
end Go.Proofs.Yticjlkommabcjaa.Pure
