/- The document's Distances; pairs that are the same. -/
import Derived.Test.YtancjhajhdhfbaaC17x
namespace Go.Proofs.Ytancjhajhdhfbaa.Tev
open Go Go.RowKit Go.Proofs Go.Proofs.Ytancjhajhdhfbaa.Q
set_option linter.unusedSectionVars false
set_option maxRecDepth 100000
set_option maxHeartbeats 0
set_option linter.unusedSimpArgs false
set_option linter.unusedVariables false
/-- The numbers from d on that are among the distances. -/
def dFrom (L : List PairI) : Int → Nat → List Int
  | _, 0 => []
  | d, n + 1 => (if d ∈ apartL L then [d] else []) ++ dFrom L (d + 1) n
theorem dFrom_mem (L : List PairI) (z : Int) : ∀ (n : Nat) (d : Int), z ∈ dFrom L d n ↔ z ∈ apartL L ∧ d ≤ z ∧ z < d + n
  | 0, d => by simp only [dFrom, List.not_mem_nil, false_iff]; omega
  | n + 1, d => by
    rw [dFrom, List.mem_append, dFrom_mem L z n (d + 1)]
    by_cases h : d ∈ apartL L
    · rw [if_pos h, List.mem_singleton]
      constructor
      · rintro (rfl | ⟨h1, h2, h3⟩)
        · exact ⟨h, by omega, by omega⟩
        · exact ⟨h1, by omega, by omega⟩
      · rintro ⟨h1, h2, h3⟩
        by_cases e : z = d
        · exact .inl e
        · exact .inr ⟨h1, by omega, by omega⟩
    · rw [if_neg h]
      constructor
      · rintro (h1 | ⟨h1, h2, h3⟩)
        · simp at h1
        · exact ⟨h1, by omega, by omega⟩
      · rintro ⟨h1, h2, h3⟩
        refine .inr ⟨h1, ?_, by omega⟩
        rcases Int.lt_or_eq_of_le h2 with q | rfl
        · omega
        · exact absurd h1 h
theorem dFrom_strict (L : List PairI) : ∀ (n : Nat) (d : Int), (dFrom L d n).Pairwise (· < ·)
  | 0, d => List.Pairwise.nil
  | n + 1, d => by
    have ih := dFrom_strict L n (d + 1)
    rw [dFrom]
    split
    · refine List.pairwise_cons.2 ⟨fun z hz => ?_, ih⟩
      have := (dFrom_mem L z n (d + 1)).1 hz
      omega
    · exact ih
theorem dFrom_len (L : List PairI) : ∀ (n : Nat) (d : Int), (dFrom L d n).length ≤ n
  | 0, d => Nat.le_refl 0
  | n + 1, d => by
    have ih := dFrom_len L n (d + 1)
    rw [dFrom, List.length_append]
    split <;> simp <;> omega
section
variable (L : List PairI) (hL : L.length ≤ 160000) (hb : ∀ z ∈ L, 0 ≤ z.1 ∧ z.1 < 400 ∧ 0 ≤ z.2 ∧ z.2 < 400) (c1 : Option Nat)
include hL hb
theorem rl_Dist10 (d : Int) (xs : List Int) (cx : Option Nat) : ∀ (r : List PairI) (i : Nat) (u : Bool), L.drop i = r →
    lp E0 pr0 15 10 ⟨[(8, .sl 0 0 L.length 2 c1), (10, .sl 1 0 xs.length 1 cx), (11, I d), (12, B u), (13, I i)], [(0, .arr (pairCs L) 0 1), (1, .arr (ints xs) 1 1)], 2⟩ =
      some (.exit 2, ⟨[(8, .sl 0 0 L.length 2 c1), (10, .sl 1 0 xs.length 1 cx), (11, I d), (12, B (u || decide (d ∈ apartL r)))], [(0, .arr (pairCs L) 0 1), (1, .arr (ints xs) 1 1)], 2⟩) := by
  intro r
  induction r with
  | nil =>
    intro i u h1
    have h5 := drop_nil h1
    have h6 : ¬ (i : Int) < L.length := by omega
    have e : decide (d ∈ apartL []) = false := decide_eq_false (by simp [apartL])
    rw [lp_eq lp15_10]
    simp (config := { maxSteps := 1000000 }) (disch := omega) only [push_cast, ↓reduceIte, Nat.reduceEqDiff, Nat.reduceAdd, Nat.reduceLT, Nat.reduceLeDiff, Nat.reduceBEq, Nat.reduceMul, Nat.reduceSub, Int.reduceToNat, Int.reduceEq, Int.reduceLT, Int.reduceLE, Int.reduceNeg, Int.reduceAdd, Int.reduceSub, Int.reduceMul, Try.f15, kr15, kp15_10, kp15_6, ow15_10, ow15_6, ty3, ty22, ty24, ty28, ty29, ty49, h6, e]
  | cons z r ih =>
    intro i u h1
    obtain ⟨g1, g2, g3⟩ := drop_cons h1
    have g8 : (i : Int) < L.length := by omega
    obtain ⟨hat, hat2⟩ := pairCs_at L i z g2
    have hz := hb z (List.mem_of_getElem? g2)
    have hw : IntKind.i64.wrap (z.2 - z.1) = z.2 - z.1 := w64 (by omega) (by omega)
    have ih' := ih (i + 1) (u || decide (z.2 - z.1 = d)) g3
    have e : (decide (z.2 - z.1 = d) || decide (d ∈ apartL r)) = decide (d ∈ apartL (z :: r)) := by
      rw [Bool.eq_iff_iff, Bool.or_eq_true, decide_eq_true_eq, decide_eq_true_eq, decide_eq_true_eq]
      unfold apartL
      rw [List.map_cons, List.mem_cons]
      exact ⟨fun q => q.elim (fun k => .inl k.symm) .inr, fun q => q.elim (fun k => .inl k.symm) .inr⟩
    rw [Bool.or_assoc, e] at ih'
    simp only [cast1, List.length_append, List.length_cons, List.length_nil, Nat.zero_add, Nat.add_zero, Int.natCast_zero, Int.natCast_add, Int.zero_add, ints_1, ints_0, ] at ih'
    rw [lp_eq lp15_10]
    cases u <;> simp only [Bool.true_or, Bool.false_or] at ih' ⊢ <;> simp (config := { maxSteps := 1000000 }) (disch := omega) only [push_cast, ↓reduceIte, Nat.reduceEqDiff, Nat.reduceAdd, Nat.reduceLT, Nat.reduceLeDiff, Nat.reduceBEq, Nat.reduceMul, Nat.reduceSub, Int.reduceToNat, Int.reduceEq, Int.reduceLT, Int.reduceLE, Int.reduceNeg, Int.reduceAdd, Int.reduceSub, Int.reduceMul, Try.f15, kr15, kp15_10, kp15_6, ow15_10, ow15_6, ty3, ty22, ty24, ty28, ty29, ty49, g1, g8, hat, hat2, hw, ih']
theorem rl_Dist6 : ∀ (n : Nat) (d : Int) (xs : List Int) (cx : Option Nat), d + n = 401 → -400 ≤ d → xs.length + n ≤ 1000 →
    ∃ cx', lp E0 pr0 15 6 ⟨[(8, .sl 0 0 L.length 2 c1), (10, .sl 1 0 xs.length 1 cx), (11, I d)], [(0, .arr (pairCs L) 0 1), (1, .arr (ints xs) 1 1)], 2⟩ =
      some (.exit 0, ⟨[(10, .sl 0 0 (xs ++ dFrom L d n).length 1 cx')], [(0, .arr (ints (xs ++ dFrom L d n)) 0 1)], 1⟩) := by
  intro n
  induction n with
  | zero =>
    intro d xs cx h1 h2 h3
    have h6 : ¬ d ≤ 400 := by omega
    refine ⟨cx, ?_⟩
    rw [lp_eq lp15_6]
    simp (config := { maxSteps := 1000000 }) (disch := omega) only [push_cast, ↓reduceIte, Nat.reduceEqDiff, Nat.reduceAdd, Nat.reduceLT, Nat.reduceLeDiff, Nat.reduceBEq, Nat.reduceMul, Nat.reduceSub, Int.reduceToNat, Int.reduceEq, Int.reduceLT, Int.reduceLE, Int.reduceNeg, Int.reduceAdd, Int.reduceSub, Int.reduceMul, Try.f15, kr15, kp15_10, kp15_6, ow15_10, ow15_6, ty3, ty22, ty24, ty28, ty29, ty49, h6, dFrom, List.append_nil]
  | succ n ih =>
    intro d xs cx h1 h2 h3
    have h6 : d ≤ 400 := by omega
    have hw : IntKind.i64.wrap (d + 1) = d + 1 := w64 (by omega) (by omega)
    have h10 := rl_Dist10 L hL hb c1 d xs cx L 0 false rfl
    rw [Bool.false_or] at h10
    by_cases e : d ∈ apartL L
    · obtain ⟨cx', ih'⟩ := ih (d + 1) (xs ++ [d]) none (by omega) (by omega) (by simp; omega)
      rw [List.append_assoc, show [d] ++ dFrom L (d + 1) n = dFrom L d (n + 1) by rw [dFrom, if_pos e]] at ih'
      rw [decide_eq_true e] at h10
      simp only [cast1, List.length_append, List.length_cons, List.length_nil, Nat.zero_add, Nat.add_zero, Int.natCast_zero, Int.natCast_add, Int.zero_add, ints_1, ints_0, ] at ih' h10
      refine ⟨cx', ?_⟩
      rw [lp_eq lp15_6]
      simp (config := { maxSteps := 1000000 }) (disch := omega) only [push_cast, ↓reduceIte, Nat.reduceEqDiff, Nat.reduceAdd, Nat.reduceLT, Nat.reduceLeDiff, Nat.reduceBEq, Nat.reduceMul, Nat.reduceSub, Int.reduceToNat, Int.reduceEq, Int.reduceLT, Int.reduceLE, Int.reduceNeg, Int.reduceAdd, Int.reduceSub, Int.reduceMul, Try.f15, kr15, kp15_10, kp15_6, ow15_10, ow15_6, ty3, ty22, ty24, ty28, ty29, ty49, h6, h10, hw, ih']
    · obtain ⟨cx', ih'⟩ := ih (d + 1) xs cx (by omega) (by omega) (by omega)
      rw [show dFrom L (d + 1) n = dFrom L d (n + 1) by rw [dFrom, if_neg e]; rfl] at ih'
      rw [decide_eq_false e] at h10
      simp only [cast1, List.length_append, List.length_cons, List.length_nil, Nat.zero_add, Nat.add_zero, Int.natCast_zero, Int.natCast_add, Int.zero_add, ints_1, ints_0, ] at ih' h10
      refine ⟨cx', ?_⟩
      rw [lp_eq lp15_6]
      simp (config := { maxSteps := 1000000 }) (disch := omega) only [push_cast, ↓reduceIte, Nat.reduceEqDiff, Nat.reduceAdd, Nat.reduceLT, Nat.reduceLeDiff, Nat.reduceBEq, Nat.reduceMul, Nat.reduceSub, Int.reduceToNat, Int.reduceEq, Int.reduceLT, Int.reduceLE, Int.reduceNeg, Int.reduceAdd, Int.reduceSub, Int.reduceMul, Try.f15, kr15, kp15_10, kp15_6, ow15_10, ow15_6, ty3, ty22, ty24, ty28, ty29, ty49, h6, h10, hw, ih']
end
section
variable (ar a : Int) (b1 b2 b3 : Bool) (c1 c2 c3 : Option Nat) (E S : List Int) (ar' b : Int) (S' : List Int)
theorem dist_doc : dFrom (meetL ar a E S ar' b S') (-400) 801 = distL ar a E S ar' b S' := by
  refine strict_ext (dFrom_strict _ _ _) (setQ_strict _) fun z => ?_
  rw [dFrom_mem]
  show _ ↔ z ∈ setQ _
  rw [setQ_mem]
  constructor
  · exact fun h => h.1
  · intro h
    refine ⟨h, ?_⟩
    unfold apartL at h
    obtain ⟨y, hy, rfl⟩ := List.mem_map.1 h
    have := meetL_bd ar a E S ar' b S' y hy
    omega
theorem r17_Distances : CALL 15 [SL b1 c1 E.length (ints E), Rf ar a b2 c2 S, Rf ar' b b3 c3 S'] = some (distR (distL ar a E S ar' b S') (errRR a E S b S')) := by
  have hp := fun b1 b2 b3 c1 c2 c3 => r17_Pairs ar a b1 b2 b3 c1 c2 c3 E S ar' b S'
  unfold pairsRes at hp
  have hl := meetL_len ar a E S ar' b S'
  have hb := meetL_bd ar a E S ar' b S'
  have hd := dist_doc ar a E S ar' b S'
  unfold distR
  refine lim_run (fn := Try.f15) fn15 rfl body15 (Nat.le_of_ble_eq_true rfl) ok15 ?_
  rcases errRR_or a E S b S' with he | he
  · rw [he] at hp ⊢
    generalize meetL ar a E S ar' b S' = L at *
    obtain ⟨cx, h6⟩ := rl_Dist6 L hl hb none 801 (-400) [] none (by omega) (by omega) (by simp)
    rw [List.nil_append, hd] at h6
    simp only [cast1, List.length_append, List.length_cons, List.length_nil, Nat.zero_add, Nat.add_zero, Int.natCast_zero, Int.natCast_add, Int.zero_add, ints_1, ints_0, ] at h6
    have hr : rowAt (ints (distL ar a E S ar' b S')) 0 (distL ar a E S ar' b S').length = ints (distL ar a E S ar' b S') := rowAt_all _ _ (by rw [ints_len])
    simp (config := { maxSteps := 1000000 }) (disch := omega) only [push_cast, ↓reduceIte, Nat.reduceEqDiff, Nat.reduceAdd, Nat.reduceLT, Nat.reduceLeDiff, Nat.reduceBEq, Nat.reduceMul, Nat.reduceSub, Int.reduceToNat, Int.reduceEq, Int.reduceLT, Int.reduceLE, Int.reduceNeg, Int.reduceAdd, Int.reduceSub, Int.reduceMul, Try.f15, kr15, kp15_10, kp15_6, ow15_10, ow15_6, ty3, ty22, ty24, ty28, ty29, ty49, hp, ne_eq, h6, hr]
  · have hm := meetL_err ar a E S ar' b S' he
    have hz : distL ar a E S ar' b S' = [] := by unfold distL; rw [hm]; exact setQ_nil
    rw [he] at hp
    rw [he, hz]
    simp (config := { maxSteps := 1000000 }) (disch := omega) only [push_cast, ↓reduceIte, Nat.reduceEqDiff, Nat.reduceAdd, Nat.reduceLT, Nat.reduceLeDiff, Nat.reduceBEq, Nat.reduceMul, Nat.reduceSub, Int.reduceToNat, Int.reduceEq, Int.reduceLT, Int.reduceLE, Int.reduceNeg, Int.reduceAdd, Int.reduceSub, Int.reduceMul, Try.f15, kr15, kp15_10, kp15_6, ow15_10, ow15_6, ty3, ty22, ty24, ty28, ty29, ty49, hp, ne_eq, ints_0]
end
section
variable (b b' : Bool) (c c' : Option Nat) (l l' : List PairI)
theorem row49 : isRow2 Try.prog 49 = true := by kernel_rfl
theorem rl_SamePairs (hl : l.length = l'.length) (hb : (l.length : Int) ≤ 9223372036854775806) : ∀ (r : List PairI) (i : Nat), l.drop i = r →
    lp E0 pr0 16 4 ⟨[(0, SL b c l.length (pairCs l)), (1, SL b' c' l'.length (pairCs l')), (5, I i)], [], 0⟩ =
      if r = l'.drop i then some (.exit 0, ⟨[], [], 0⟩) else some (.ret, ⟨[(4, B false)], [], 0⟩) := by
  intro r
  induction r with
  | nil =>
    intro i h1
    have h5 := drop_nil h1
    have h6 : ¬ (i : Int) < l.length := by omega
    rw [if_pos (List.drop_eq_nil_iff.2 (by omega)).symm]
    rw [lp_eq lp16_4]
    simp (config := { maxSteps := 1000000 }) (disch := omega) only [push_cast, ↓reduceIte, Nat.reduceEqDiff, Nat.reduceAdd, Nat.reduceLT, Nat.reduceLeDiff, Nat.reduceBEq, Nat.reduceMul, Nat.reduceSub, Int.reduceToNat, Int.reduceEq, Int.reduceLT, Int.reduceLE, Int.reduceNeg, Int.reduceAdd, Int.reduceSub, Int.reduceMul, Try.f16, kr16, kp16_4, ow16_4, ty3, ty4, ty28, ty49, tb4, h6]
  | cons x r ih =>
    intro i h1
    obtain ⟨g1, g2, g3⟩ := drop_cons h1
    have g8 : (i : Int) < l.length := by omega
    have g9 : (i : Int) < l'.length := by omega
    have g10 : i < l'.length := by omega
    obtain ⟨y, hy⟩ : ∃ y, l'[i]? = some y := ⟨_, List.getElem?_eq_getElem (by omega)⟩
    have e : l'.drop i = y :: l'.drop (i + 1) := by
      rw [List.drop_eq_getElem_cons (by omega)]
      rw [List.getElem?_eq_getElem (by omega), Option.some.injEq] at hy
      rw [hy]
    obtain ⟨k1, k2⟩ := pairCs_at l i x g2
    obtain ⟨k3, k4⟩ := pairCs_at l' i y hy
    have ih' := ih (i + 1) g3
    simp only [cast1, List.length_append, List.length_cons, List.length_nil, Nat.zero_add, Nat.add_zero, Int.natCast_zero, Int.natCast_add, Int.zero_add, ints_1, ints_0, ] at ih'
    rw [e]
    rw [lp_eq lp16_4]
    by_cases q : x.1 = y.1 ∧ x.2 = y.2
    · have q' : x = y := Prod.ext q.1 q.2
      simp only [List.cons.injEq, q', true_and]
      subst q'
      simp (config := { maxSteps := 1000000 }) (disch := omega) only [push_cast, ↓reduceIte, Nat.reduceEqDiff, Nat.reduceAdd, Nat.reduceLT, Nat.reduceLeDiff, Nat.reduceBEq, Nat.reduceMul, Nat.reduceSub, Int.reduceToNat, Int.reduceEq, Int.reduceLT, Int.reduceLE, Int.reduceNeg, Int.reduceAdd, Int.reduceSub, Int.reduceMul, Try.f16, kr16, kp16_4, ow16_4, ty3, ty4, ty28, ty49, tb4, g1, g8, g9, g10, k1, k2, k3, k4, bin_neqR row49, ih', ne_eq]
    · rw [if_neg fun k => q (by rw [(List.cons.inj k).1]; exact ⟨rfl, rfl⟩)]
      simp (config := { maxSteps := 1000000 }) (disch := omega) only [push_cast, ↓reduceIte, Nat.reduceEqDiff, Nat.reduceAdd, Nat.reduceLT, Nat.reduceLeDiff, Nat.reduceBEq, Nat.reduceMul, Nat.reduceSub, Int.reduceToNat, Int.reduceEq, Int.reduceLT, Int.reduceLE, Int.reduceNeg, Int.reduceAdd, Int.reduceSub, Int.reduceMul, Try.f16, kr16, kp16_4, ow16_4, ty3, ty4, ty28, ty49, tb4, g1, g8, g9, g10, k1, k2, k3, k4, bin_neqR row49, q, ne_eq]
theorem r17_SamePairs (hb : (l.length : Int) ≤ 9223372036854775806) : CALL 16 [SL b c l.length (pairCs l), SL b' c' l'.length (pairCs l')] = some (B (decide (l = l')), []) := by
  refine lim_run (fn := Try.f16) fn16 rfl body16 (Nat.le_of_ble_eq_true rfl) ok16 ?_
  by_cases h : (l.length : Int) = l'.length
  · have hl := rl_SamePairs b b' c c' l l' (by omega) hb l 0 rfl
    rw [List.drop_zero] at hl
    simp only [cast1, List.length_append, List.length_cons, List.length_nil, Nat.zero_add, Nat.add_zero, Int.natCast_zero, Int.natCast_add, Int.zero_add, ints_1, ints_0, ] at hl
    by_cases q : l = l'
    · rw [if_pos q] at hl
      rw [decide_eq_true q]
      simp (config := { maxSteps := 1000000 }) (disch := omega) only [push_cast, ↓reduceIte, Nat.reduceEqDiff, Nat.reduceAdd, Nat.reduceLT, Nat.reduceLeDiff, Nat.reduceBEq, Nat.reduceMul, Nat.reduceSub, Int.reduceToNat, Int.reduceEq, Int.reduceLT, Int.reduceLE, Int.reduceNeg, Int.reduceAdd, Int.reduceSub, Int.reduceMul, Try.f16, kr16, kp16_4, ow16_4, ty3, ty4, ty28, ty49, tb4, h, hl, ne_eq]
    · rw [if_neg q] at hl
      rw [decide_eq_false q]
      simp (config := { maxSteps := 1000000 }) (disch := omega) only [push_cast, ↓reduceIte, Nat.reduceEqDiff, Nat.reduceAdd, Nat.reduceLT, Nat.reduceLeDiff, Nat.reduceBEq, Nat.reduceMul, Nat.reduceSub, Int.reduceToNat, Int.reduceEq, Int.reduceLT, Int.reduceLE, Int.reduceNeg, Int.reduceAdd, Int.reduceSub, Int.reduceMul, Try.f16, kr16, kp16_4, ow16_4, ty3, ty4, ty28, ty49, tb4, h, hl, ne_eq]
  · rw [decide_eq_false (fun q : l = l' => h (by rw [q]))]
    simp (config := { maxSteps := 1000000 }) (disch := omega) only [push_cast, ↓reduceIte, Nat.reduceEqDiff, Nat.reduceAdd, Nat.reduceLT, Nat.reduceLeDiff, Nat.reduceBEq, Nat.reduceMul, Nat.reduceSub, Int.reduceToNat, Int.reduceEq, Int.reduceLT, Int.reduceLE, Int.reduceNeg, Int.reduceAdd, Int.reduceSub, Int.reduceMul, Try.f16, kr16, kp16_4, ow16_4, ty3, ty4, ty28, ty49, tb4, h, ne_eq]
end
end Go.Proofs.Ytancjhajhdhfbaa.Tev
