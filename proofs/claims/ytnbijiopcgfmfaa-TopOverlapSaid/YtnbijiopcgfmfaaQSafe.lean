/- The quick tests are never wrong on the safe side. -/
import Derived.Test.YtnbijiopcgfmfaaQPair
import Derived.Test.YtnbijiopcgfmfaaQ17
namespace Go.Proofs.Ytnbijiopcgfmfaa.Q
open Go
set_option linter.unusedVariables false
set_option linter.unusedSimpArgs false
theorem gcdN_d : ∀ (E S S' : List Int) (d : Nat), gcdN E S S' d ∣ d
  | e :: E, s :: S, s' :: S', d => by
    rw [gcdN]
    refine Nat.dvd_trans (gcdN_d E S S' _) ?_
    split
    · exact Nat.dvd_trans (Nat.gcd_dvd_left _ _) (Nat.gcd_dvd_left _ _)
    · exact Nat.dvd_refl d
  | [], _, _, d => by simp [gcdN]
  | _ :: _, [], _, d => by simp [gcdN]
  | _ :: _, _ :: _, [], d => by simp [gcdN]
theorem gcdN_dot : ∀ (E S S' : List Int) (d : Nat), S.length = E.length → S'.length = E.length → (∀ e ∈ E, 1 ≤ e) → ∀ n : Int,
    ((gcdN E S S' d : Nat) : Int) ∣ dotQ (subsQ E n) S ∧ ((gcdN E S S' d : Nat) : Int) ∣ dotQ (subsQ E n) S'
  | [], _, _, d, _, _, _, n => by simp [subsQ, dotQ]
  | _ :: _, [], _, d, h, _, _, n => by simp at h
  | _ :: _, _ :: _, [], d, _, h, _, n => by simp at h
  | e :: E, s :: S, s' :: S', d, h1, h2, h3, n => by
    have he := h3 e (by simp)
    obtain ⟨i1, i2⟩ := gcdN_dot E S S' (if 1 < e then Nat.gcd (Nat.gcd d s.natAbs) s'.natAbs else d) (by simpa using h1) (by simpa using h2) (fun x hx => h3 x (by simp [hx])) (Int.tdiv n e)
    have hg := gcdN_d E S S' (if 1 < e then Nat.gcd (Nat.gcd d s.natAbs) s'.natAbs else d)
    rw [gcdN]
    simp only [subsQ, dotQ]
    generalize gcdN E S S' (if 1 < e then Nat.gcd (Nat.gcd d s.natAbs) s'.natAbs else d) = g at *
    by_cases h : 1 < e
    · rw [if_pos h] at hg
      have k1 : (g : Int) ∣ s := Int.ofNat_dvd_left.2 (Nat.dvd_trans hg (Nat.dvd_trans (Nat.gcd_dvd_left _ _) (Nat.gcd_dvd_right _ _)))
      have k2 : (g : Int) ∣ s' := Int.ofNat_dvd_left.2 (Nat.dvd_trans hg (Nat.gcd_dvd_right _ _))
      exact ⟨Int.dvd_add (Int.dvd_mul_of_dvd_right k1) i1, Int.dvd_add (Int.dvd_mul_of_dvd_right k2) i2⟩
    · obtain rfl : e = 1 := by omega
      have h0 : Int.tmod n 1 = 0 := Int.tmod_one n
      rw [h0, Int.zero_mul, Int.zero_mul, Int.zero_add, Int.zero_add]
      exact ⟨i1, i2⟩
theorem safe_of {a b : Int} {E S S' : List Int} (h1 : okR a E S) (h2 : okR b E S') {x : Int} (hx : x ∈ placesR a E S) (hy : x ∈ placesR b E S') : gcdQ a E S b S' = true ∧ rangeQ a E S b S' = true := by
  have h0 : pr E ≠ 0 := fun q => by
    have := placesR_length h1
    rw [q] at this
    have := List.length_pos_iff.2 (List.ne_nil_of_mem hx)
    omega
  have p1 := (places_ends h1 h0).1 x hx
  have p2 := (places_ends h2 h0).1 x hy
  have he := okX_pos h1.1 h0
  refine ⟨decide_eq_true ⟨h1, h2, h0, ?_⟩, decide_eq_true ⟨⟨h1, h2, h0⟩, by omega, by omega⟩⟩
  rw [placesR_eq h1, List.mem_map] at hx
  rw [placesR_eq h2, List.mem_map] at hy
  obtain ⟨n, _, e1⟩ := hx
  obtain ⟨k, _, e2⟩ := hy
  have g1 := (gcdN_dot E S S' 0 h1.2.1 h2.2.1 (fun e h => (he e h).1) (n : Int)).1
  have g2 := (gcdN_dot E S S' 0 h1.2.1 h2.2.1 (fun e h => (he e h).1) (k : Int)).2
  rw [show a - b = dotQ (subsQ E k) S' - dotQ (subsQ E n) S by omega]
  exact Int.dvd_sub g2 g1
end Go.Proofs.Ytnbijiopcgfmfaa.Q
