/- The first layer: overlap.Pairs and overlap.Twice are told; then overlap.Distances, walked; the second layer. -/
import Derived.Test.YtancjhajhdhfbaaC17r
namespace Go.Proofs.Ytancjhajhdhfbaa.Tev
open Go Go.RowKit Go.Proofs Go.Proofs.Ytancjhajhdhfbaa.Q
set_option linter.unusedSectionVars false
set_option maxRecDepth 100000
set_option maxHeartbeats 0
set_option linter.unusedSimpArgs false
set_option linter.unusedVariables false
/-- The functions that are told later. -/
def NEW : List Nat := [14, 18, 19, 11, 3, 5, 6, 7, 8]
def Sp1 (f : FuncId) (xs : List T) (r : R) : Prop :=
  (f = 12 ∧ ∃ (ar a : Int) (b1 b2 b3 : Bool) (c1 c2 c3 : Option Nat) (E S : List Int) (ar' b : Int) (S' : List Int), (E.length : Int) ≤ 9223372036854775806 ∧ (S.length : Int) ≤ 9223372036854775806 ∧ (S'.length : Int) ≤ 9223372036854775806 ∧
    xs = [SL b1 c1 E.length (ints E), Rf ar a b2 c2 S, Rf ar' b b3 c3 S'] ∧ r = pairsRes (meetL ar a E S ar' b S') (errRR a E S b S')) ∨
  (f = 26 ∧ ∃ (ar a : Int) (b1 b2 : Bool) (c1 c2 : Option Nat) (E S : List Int), (E.length : Int) ≤ 9223372036854775806 ∧ (S.length : Int) ≤ 9223372036854775806 ∧
    xs = [SL b1 c1 E.length (ints E), Rf ar a b2 c2 S] ∧ r = (.tup [B (decide (¬ (placesR a E S).Nodup)), I (errR a E S)], []))
theorem Sp1_ok (f : FuncId) (xs : List T) (r : R) (h : Sp1 f xs r) : CallsR E0.P f xs r := by
  rcases h with ⟨rfl, ar, a, b1, b2, b3, c1, c2, c3, E, S, ar', b, S', h1, h2, h3, rfl, rfl⟩ | ⟨rfl, ar, a, b1, b2, c1, c2, E, S, h1, h2, rfl, rfl⟩
  · exact pairs_all ar a b1 b2 b3 c1 c2 c3 E S ar' b S' h1 h2 h3
  · exact twice_all ar a b1 b2 c1 c2 E S h1 h2
theorem SLi_inj {b b' : Bool} {c c' : Option Nat} {l l' : List Int} (h : SL b c l.length (ints l) = SL b' c' l'.length (ints l')) : l = l' := ints_inj (SL_inj h)
theorem Rf_inj {ar ar' a a' : Int} {b b' : Bool} {c c' : Option Nat} {l l' : List Int} (h : Rf ar a b c l = Rf ar' a' b' c' l') : ar = ar' ∧ a = a' ∧ l = l' := by
  simp only [T.agg.injEq, List.cons.injEq, T.c.injEq, C.v.injEq, Value.int.injEq, true_and, and_true] at h
  exact ⟨h.1, h.2.1, SLi_inj h.2.2⟩
theorem Sp1_one {f : FuncId} {xs : List T} {r r' : R} (h : Sp1 f xs r) (h' : Sp1 f xs r') : r' = r := by
  rcases h with ⟨rfl, ar, a, b1, b2, b3, c1, c2, c3, E, S, ar', b, S', h1, h2, h3, rfl, rfl⟩ | ⟨rfl, ar, a, b1, b2, c1, c2, E, S, h1, h2, rfl, rfl⟩
  · rcases h' with ⟨_, ar1, a1, b11, b21, b31, c11, c21, c31, E1, S1, ar1', b1', S1', _, _, _, e, rfl⟩ | ⟨q, _⟩
    · simp only [List.cons.injEq, and_true] at e
      obtain ⟨e1, e2, e3⟩ := e
      obtain rfl := SLi_inj e1
      obtain ⟨rfl, rfl, rfl⟩ := Rf_inj e2
      obtain ⟨rfl, rfl, rfl⟩ := Rf_inj e3
      rfl
    · exact absurd q (by decide)
  · rcases h' with ⟨q, _⟩ | ⟨_, ar1, a1, b11, b21, c11, c21, E1, S1, _, _, e, rfl⟩
    · exact absurd q (by decide)
    · simp only [List.cons.injEq, and_true] at e
      obtain ⟨e1, e2⟩ := e
      obtain rfl := SLi_inj e1
      obtain ⟨rfl, rfl, rfl⟩ := Rf_inj e2
      rfl
noncomputable def pr1 : FuncId → List T → Option R := relP Sp1 (butP NEW CALL)
theorem pr1_ok : CallOK E0.P pr1 := relP_ok Sp1_ok (butP_ok (lim_sound mixed pr0_ok))
noncomputable abbrev CALL1 := (lim E0 pr1).call
theorem Sp1_not {f : FuncId} (h : f ≠ 12 ∧ f ≠ 26) (xs : List T) (r : R) : ¬ Sp1 f xs r := fun q => by
  rcases q with ⟨q, _⟩ | ⟨q, _⟩
  · exact h.1 q
  · exact h.2 q
theorem pr1_none {f : FuncId} (h : (f ≠ 12 ∧ f ≠ 26) ∧ f ∈ NEW) (xs : List T) : pr1 f xs = none := (relP_none (Sp1_not h.1 xs)).trans (if_pos h.2)
theorem old1 {f : FuncId} {xs : List T} {r : R} (h : (f ≠ 12 ∧ f ≠ 26) ∧ f ∉ NEW) (hc : CALL f xs = some r) : CALL1 f xs = some r :=
  lim_pr ((relP_none (Sp1_not h.1 xs)).trans ((if_neg h.2).trans hc))
theorem s1_Pairs (ar a : Int) (b1 b2 b3 : Bool) (c1 c2 c3 : Option Nat) (E S : List Int) (ar' b : Int) (S' : List Int) (h1 : (E.length : Int) ≤ 9223372036854775806) (h2 : (S.length : Int) ≤ 9223372036854775806) (h3 : (S'.length : Int) ≤ 9223372036854775806) :
    CALL1 12 [SL b1 c1 E.length (ints E), Rf ar a b2 c2 S, Rf ar' b b3 c3 S'] = some (pairsRes (meetL ar a E S ar' b S') (errRR a E S b S')) :=
  lim_pr (relP_of (.inl ⟨rfl, ar, a, b1, b2, b3, c1, c2, c3, E, S, ar', b, S', h1, h2, h3, rfl, rfl⟩) fun r' h => Sp1_one (.inl ⟨rfl, ar, a, b1, b2, b3, c1, c2, c3, E, S, ar', b, S', h1, h2, h3, rfl, rfl⟩) h)
theorem s1_Twice (ar a : Int) (b1 b2 : Bool) (c1 c2 : Option Nat) (E S : List Int) (h1 : (E.length : Int) ≤ 9223372036854775806) (h2 : (S.length : Int) ≤ 9223372036854775806) :
    CALL1 26 [SL b1 c1 E.length (ints E), Rf ar a b2 c2 S] = some (.tup [B (decide (¬ (placesR a E S).Nodup)), I (errR a E S)], []) :=
  lim_pr (relP_of (.inr ⟨rfl, ar, a, b1, b2, c1, c2, E, S, h1, h2, rfl, rfl⟩) fun r' h => Sp1_one (.inr ⟨rfl, ar, a, b1, b2, c1, c2, E, S, h1, h2, rfl, rfl⟩) h)
end Go.Proofs.Ytancjhajhdhfbaa.Tev
