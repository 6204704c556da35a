/- SectionPlaces in plain numbers. -/
import Derived.Test.YticjlkommabcjaaSecPlc
import Derived.Test.YticjlkommabcjaaPSx8
import Derived.Test.YticjlkommabcjaaPSx9
import Derived.Test.YticjlkommabcjaaPSx16
import Derived.Test.YticjlkommabcjaaPSx24
import Derived.Test.YticjlkommabcjaaPSx25
import Derived.Test.YticjlkommabcjaaPSx26
import Derived.Test.YticjlkommabcjaaPSx27
import Derived.Test.YticjlkommabcjaaPSx28
set_option linter.unusedVariables false
namespace Go.Proofs.Yticjlkommabcjaa.Pure
open Go.RowKit Go.Proofs.YticjlkommabcjaaW.PrintWords Go.Proofs.YticjlkommabcjaaW.PrintMore Go.Proofs.Yticjlkommabcjaa.PS Go.Proofs.Yticjlkommabcjaa.Ar

theorem cont_loop (l : List Int) (hl : l.length ≤ 4000) : ∀ (d k : Nat) (i : Int), 1 ≤ i → l.length ≤ i + d →
    ∃ r, section_Contiguous.l0 (k + d + 1) l i = some r ∧ quadratref06_Contiguous.l0 (k + d + 1) l i = some r := by
  intro d
  induction d with
  | zero =>
    intro k i h0 h1
    refine ⟨(true, 0), ?_, ?_⟩
    · rw [section_Contiguous.l0, if_neg (by omega)]
    · rw [quadratref06_Contiguous.l0, if_neg (by omega)]
  | succ d ih =>
    intro k i h0 h1
    by_cases hi : i < (l.length : Int)
    · obtain ⟨r, e1, e2⟩ := ih k (i + 1) (by omega) (by omega)
      rw [show k + (d + 1) + 1 = (k + d + 1) + 1 from by omega, section_Contiguous.l0, quadratref06_Contiguous.l0, w64 (x := i + 1) (by omega) (by omega), e1, e2]
      simp only [if_pos hi, if_pos (show 0 ≤ i by omega), w64 (x := i - 1) (by omega) (by omega), if_pos (show 0 ≤ i - 1 by omega), if_pos (show i - 1 < (l.length : Int) by omega)]
      split
      · exact ⟨_, rfl, rfl⟩
      · exact ⟨_, rfl, rfl⟩
    · refine ⟨(true, 0), ?_, ?_⟩
      · rw [show k + (d + 1) + 1 = (k + d + 1) + 1 from by omega, section_Contiguous.l0, if_neg hi]
      · rw [show k + (d + 1) + 1 = (k + d + 1) + 1 from by omega, quadratref06_Contiguous.l0, if_neg hi]

theorem cont_both (b : Int) (E S : List Int) (h0 : b ≤ 9223372036854775807) (hSl : (S.length : Int) ≤ 9223372036854775806) :
    ∃ r, section_Contiguous.f 100000 b E S = some r ∧ quadratref06_Contiguous.f 100000 b E S = some r := by
  unfold section_Contiguous.f quadratref06_Contiguous.f
  rw [places_f b E S h0 hSl _ (by omega), valid_r b E S h0 _ (by omega)]
  by_cases h : okD b E S
  · rw [if_pos h, decide_eq_true h]
    simp only [Option.bind_some, if_true]
    rw [places_r h.1 h.2.1 h.2.2.1 _ (by omega)]
    have hl := plcR_length (b := b) (S := S) h.2.2.1 h.1
    have := h.2.1
    exact cont_loop (plcR b E S) (by omega) 99999 0 1 (by omega) (by omega)
  · rw [if_neg h, decide_eq_false h]
    exact ⟨(false, 2), by simp, by simp⟩

theorem whole_loops (l : List Int) (hl : l.length ≤ 3) (b : Int) (E : List Int) : ∀ (d k : Nat) (i a : Int) (S : List Int), 0 ≤ i → i + d = l.length → S.length + d ≤ 3 →
    ∃ T : List Int, T.length ≤ 3 ∧ section_Whole.l0 (k + d + 1) a l l.length i b E S = some (b, E, T, 0) ∧ quadratref06_Whole.l0 (k + d + 1) l a i b E S = some (b, E, T, 0) := by
  intro d
  induction d with
  | zero =>
    intro k i a S h0 h1 h2
    refine ⟨S, by omega, ?_, ?_⟩
    · rw [section_Whole.l0, if_neg (by omega)]
    · rw [quadratref06_Whole.l0, if_neg (by omega)]
  | succ d ih =>
    intro k i a S h0 h1 h2
    obtain ⟨T, hT, e1, e2⟩ := ih k (i + 1) (wrap64 (a * rd l i)) (S ++ [a]) (by omega) (by omega) (by rw [List.length_append]; simp only [List.length_cons, List.length_nil]; omega)
    refine ⟨T, hT, ?_, ?_⟩
    · rw [show k + (d + 1) + 1 = (k + d + 1) + 1 from by omega, section_Whole.l0, w64 (x := i + 1) (by omega) (by omega), e1]
      simp only [if_pos (show i < (l.length : Int) by omega), if_pos h0, if_pos (show S.length < 17592186044416 by omega)]
    · rw [show k + (d + 1) + 1 = (k + d + 1) + 1 from by omega, quadratref06_Whole.l0, w64 (x := i + 1) (by omega) (by omega), e2]
      simp only [if_pos (show i < (l.length : Int) by omega), if_pos h0, if_pos (show S.length < 17592186044416 by omega)]

theorem whole_both (l : List Int) (k : Nat) (hk : 30 ≤ k) : ∃ (E T : List Int) (e : Int), E.length ≤ 3 ∧ T.length ≤ 3 ∧ section_Whole.f k l = some (0, E, T, e) ∧ quadratref06_Whole.f k l = some (0, E, T, e) := by
  unfold section_Whole.f quadratref06_Whole.f slices_Clone.f
  rw [size_f l _ (by omega), size_r l _ (by omega)]
  simp only [Option.bind_some]
  by_cases h : sizeOf' l < 0
  · rw [if_pos h, if_pos h]
    exact ⟨[], [], 2, by simp, by simp, rfl, rfl⟩
  · obtain ⟨hE, hp⟩ : exts l ∧ prod l ≤ 4000 := Decidable.byContradiction fun hc => h (size_none.2 hc)
    have hl := hE.1
    rw [if_neg h, if_neg h, List.nil_append]
    have q : ([] : List Int).length + l.length < 17592186044416 := by simp only [List.length_nil]; omega
    rw [if_pos q, if_pos q]
    obtain ⟨T, hT, e1, e2⟩ := whole_loops l hl 0 l l.length (k - l.length - 1) 0 1 [] (by omega) (by omega) (by simp only [List.length_nil]; omega)
    rw [show k - l.length - 1 + l.length + 1 = k from by omega] at e1 e2
    exact ⟨l, T, 0, hl, hT, e1, e2⟩

theorem same_desc (b : Int) (E S : List Int) (hE : E.length ≤ 3) (hS : S.length ≤ 3) (k : Nat) (hk : 10 ≤ k) : quadratref06_Same.f k b E S b E S = some true := by
  unfold quadratref06_Same.f
  rw [if_pos rfl, same_refl E (by omega) _ (by omega), same_refl S (by omega) _ (by omega)]
  rfl

theorem SectionPlaces : ∀ (x0 : S31) (x1 : List Int), (((Lit.int .i64 x0.f0).wf = true) ∧ (x0.f1.length * 8 ≤ 140737488351232 ∧ ∀ e0_ ∈ x0.f1, (Lit.int .i64 e0_).wf = true) ∧ (x0.f2.length * 8 ≤ 140737488351232 ∧ ∀ e0_ ∈ x0.f2, (Lit.int .i64 e0_).wf = true)) → (x1.length * 8 ≤ 140737488351232 ∧ ∀ e0_ ∈ x1, (Lit.int .i64 e0_).wf = true) → ∃ k, quadratlaw06_SectionPlaces.f k (x0.f0) (x0.f1) (x0.f2) x1 = some true := by
  intro x0 x1 h0 h1
  obtain ⟨b, E, S⟩ := x0
  have hb := (i64_wf b).1 h0.1
  have hS := h0.2.2.1
  dsimp only at hS
  refine ⟨100000, ?_⟩
  show quadratlaw06_SectionPlaces.f 100000 b E S x1 = some true
  have hj : quadratlaw06_SectionPlaces.j0 100000 x1 false = some true := by
    obtain ⟨F, T, e, hF, hT, e1, e2⟩ := whole_both x1 99999 (by omega)
    rw [show (100000 : Nat) = 99999 + 1 from rfl, quadratlaw06_SectionPlaces.j0, if_neg (by decide), e1, e2]
    simp only [Option.bind_some]
    rw [same_desc 0 F T hF hT _ (by omega), awk_snd _ (by omega)]
    simp
  obtain ⟨c, c1, c2⟩ := cont_both b E S (by omega) (by omega)
  unfold quadratlaw06_SectionPlaces.f section_Size.f quadratref06_Size.f
  rw [valid_f b E S (by omega) (by omega) _ (by omega), valid_r b E S (by omega) _ (by omega), places_f b E S (by omega) (by omega) _ (by omega), rplaces_f b E S (by omega) _ (by omega), c1, c2, size_f E _ (by omega), size_r E _ (by omega)]
  simp only [Option.bind_some, bne_self_eq_false, Bool.false_eq_true, if_false, if_true]
  by_cases h : okD b E S
  · have hl := plcR_length (b := b) (S := S) h.2.2.1 h.1
    have hs : sizeOf' E = prod E := by unfold sizeOf'; rw [if_pos ⟨h.1, h.2.1⟩]
    have hp := h.2.1
    rw [decide_eq_true h, if_pos h]
    simp only [Option.bind_some, if_true]
    rw [same_refl _ (by omega) _ (by omega), hs, hl, bne_self_eq_false, hj]
    rfl
  · rw [decide_eq_false h, if_neg h]
    simp only [Option.bind_some, Bool.false_eq_true, if_false]
    rw [same_refl _ (by simp) _ (by simp), hj]
    rfl
end Go.Proofs.Yticjlkommabcjaa.Pure
