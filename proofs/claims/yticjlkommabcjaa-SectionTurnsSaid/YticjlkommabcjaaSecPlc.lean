/- The code's list of places is the document's; a list is the same as itself. -/
import Derived.Test.YticjlkommabcjaaSecRefValid
import Derived.Test.YticjlkommabcjaaPSx24
import Derived.Test.YticjlkommabcjaaSecAwake
import Derived.Test.YticjlkommabcjaaPSx8
set_option linter.unusedVariables false

namespace Go.Proofs.Yticjlkommabcjaa.Pure
open Go.RowKit Go.Proofs.YticjlkommabcjaaW.PrintWords Go.Proofs.YticjlkommabcjaaW.PrintMore Go.Proofs.Yticjlkommabcjaa.PS Go.Proofs.Yticjlkommabcjaa.Ar

theorem same_loop (l : List Int) (hl : (l.length : Int) ≤ 9223372036854775806) : ∀ (d k : Nat) (i : Int), 0 ≤ i → i + d = l.length → quadratref06_SameInts.l0 (k + d + 1) l l i = some true := by
  intro d
  induction d with
  | zero =>
    intro k i h0 h1
    rw [quadratref06_SameInts.l0, if_neg (by omega)]
  | succ d ih =>
    intro k i h0 h1
    have q : i < (l.length : Int) := by omega
    rw [show k + (d + 1) + 1 = (k + d + 1) + 1 from by omega, quadratref06_SameInts.l0, w64 (x := i + 1) (by omega) (by omega), ih k (i + 1) (by omega) (by omega)]
    simp only [if_pos q, if_pos h0, if_true]
theorem same_refl (l : List Int) (hl : (l.length : Int) ≤ 9223372036854775806) (k : Nat) (hk : l.length < k) : quadratref06_SameInts.f k l l = some true := by
  unfold quadratref06_SameInts.f
  rw [if_pos rfl, show k = (k - l.length - 1) + l.length + 1 from by omega]
  exact same_loop l hl l.length _ 0 (by omega) (by omega)
end Go.Proofs.Yticjlkommabcjaa.Pure

namespace Go.Proofs.Yticjlkommabcjaa.Pure
open Go.RowKit Go.Proofs.YticjlkommabcjaaW.PrintWords Go.Proofs.YticjlkommabcjaaW.PrintMore Go.Proofs.Yticjlkommabcjaa.PS Go.Proofs.Yticjlkommabcjaa.Ar


theorem rowW_zero {out : List Int} (s : Int) (h : ∀ x ∈ out, in64 x) : rowW out s 0 = out := by
  unfold rowW
  conv => rhs; rw [← List.map_id out]
  refine List.map_congr_left fun x hx => ?_
  have := h x hx
  unfold in64 at this
  rw [Int.zero_mul, w64 (x := 0) (by omega) (by omega), Int.add_zero, w64 this.1 this.2]
  rfl
theorem upto_dim {out : List Int} {n : Int} (s : Int) (hn : 1 ≤ n) (h : ∀ x ∈ out, in64 x) : plcUpto out s (n.toNat - 1) = dimW out s n.toNat 0 := by
  conv => rhs; rw [show n.toNat = (n.toNat - 1) + 1 from by omega, dimW_succ, rowW_zero s h]
  unfold plcUpto dimW
  congr 1
  congr 1
  funext t
  show plcRow out s ((t : Int) + 1) = rowW out s (0 + 1 + (t : Int))
  rw [show (0 : Int) + 1 + t = t + 1 from by omega]
  rfl
theorem plcs_plcW : ∀ (E S out : List Int), (∀ e ∈ E, 1 ≤ e) → (∀ x ∈ out, in64 x) → plcs E S out = plcW E S out
  | [], _, _, _, _ => by simp [plcs, plcW]
  | _ :: _, [], _, _, _ => by simp [plcs, plcW]
  | n :: E, s :: S, out, hE, h => by
    have hn := hE n (by simp)
    rw [plcs, plcW, upto_dim s hn h]
    refine plcs_plcW E S _ (fun e he => hE e (by simp [he])) fun y hy => ?_
    obtain ⟨x, _, t, _, rfl⟩ := mem_dimW.1 hy
    exact wrap_in _

theorem places_f (b : Int) (E S : List Int) (h0 : b ≤ 9223372036854775807) (hSl : (S.length : Int) ≤ 9223372036854775806) (k : Nat) (hk : 30 ≤ k) : section_Places.f k b E S = some (if okD b E S then (plcR b E S, 0) else ([], 2)) := by
  unfold section_Places.f
  rw [valid_f b E S h0 hSl _ hk]
  simp only [Option.bind_some]
  by_cases h : okD b E S
  · obtain ⟨hE, hp, hS, hb, hN, hz⟩ := h
    have h : okD b E S := ⟨hE, hp, hS, hb, hN, hz⟩
    have hs : sizeOf' E = prod E := by unfold sizeOf'; rw [if_pos ⟨hE, hp⟩]
    rw [decide_eq_true h, if_pos rfl, if_pos h, size_f E _ (by omega), hs]
    simp only [Option.bind_some]
    by_cases hz : prod E = 0
    · unfold plcR
      rw [if_pos hz, if_pos hz]
    · have hl := plcR_length (b := b) (S := S) hS hE
      have e : plcs E S [b] = plcR b E S := by
        unfold plcR
        rw [if_neg hz]
        exact plcs_plcW E S [b] (exts_pos hE hz) (by intro x hx; simp only [List.mem_cons, List.not_mem_nil, or_false] at hx; subst hx; unfold in64; omega)
      rw [if_neg hz, e, if_pos]
      refine ⟨hS, ?_, by omega⟩
      rw [List.all_eq_true]
      exact fun x hx => decide_eq_true (hE.2 x hx).2
  · rw [decide_eq_false h, if_neg (by decide), if_neg h]

theorem rplaces_f (b : Int) (E S : List Int) (h0 : b ≤ 9223372036854775807) (k : Nat) (hk : 50000 ≤ k) : quadratref06_Places.f k b E S = some (if okD b E S then (plcR b E S, 0) else ([], 2)) := by
  unfold quadratref06_Places.f
  rw [valid_r b E S h0 _ hk]
  simp only [Option.bind_some]
  by_cases h : okD b E S
  · rw [decide_eq_true h, if_pos rfl, if_pos h, places_r h.1 h.2.1 h.2.2.1 _ (by omega)]
    rfl
  · rw [decide_eq_false h, if_neg (by decide), if_neg h]
end Go.Proofs.Yticjlkommabcjaa.Pure
