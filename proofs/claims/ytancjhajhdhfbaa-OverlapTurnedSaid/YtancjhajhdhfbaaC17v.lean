/- The sizes that the laws ask of. -/
import Derived.Test.YtancjhajhdhfbaaC17e
namespace Go.Proofs.Ytancjhajhdhfbaa.Tev
open Go Go.RowKit Go.Proofs Go.Proofs.Ytancjhajhdhfbaa.Q
set_option linter.unusedSectionVars false
set_option maxRecDepth 100000
set_option maxHeartbeats 0
set_option linter.unusedSimpArgs false
set_option linter.unusedVariables false
theorem l17_isLarge (b : Bool) (c : Option Nat) (E : List Int) : CALL 9 [SL b c E.length (ints E)] = some (B (decide (80 < manyQ E ∨ 50 < (E.length : Int))), []) := by
  have hT := fun b c => r17_Turns b c E
  refine lim_run (fn := Try.f9) fn9 rfl body9 (Nat.le_of_ble_eq_true rfl) ok9 ?_
  by_cases h : 80 < manyQ E
  · simp (config := { maxSteps := 1000000 }) (disch := omega) only [push_cast, ↓reduceIte, Nat.reduceEqDiff, Nat.reduceAdd, Nat.reduceLT, Nat.reduceLeDiff, Nat.reduceBEq, Nat.reduceMul, Nat.reduceSub, Int.reduceToNat, Int.reduceEq, Int.reduceLT, Int.reduceLE, Int.reduceNeg, Int.reduceAdd, Int.reduceSub, Int.reduceMul, Try.f9, kr9, ty3, ty4, ty22, tb4, hT, h, true_or]
  · simp (config := { maxSteps := 1000000 }) (disch := omega) only [push_cast, ↓reduceIte, Nat.reduceEqDiff, Nat.reduceAdd, Nat.reduceLT, Nat.reduceLeDiff, Nat.reduceBEq, Nat.reduceMul, Nat.reduceSub, Int.reduceToNat, Int.reduceEq, Int.reduceLT, Int.reduceLE, Int.reduceNeg, Int.reduceAdd, Int.reduceSub, Int.reduceMul, Try.f9, kr9, ty3, ty4, ty22, tb4, hT, h, false_or]
theorem l17_isLong (ar a : Int) (b2 b3 : Bool) (c2 c3 : Option Nat) (S : List Int) (ar' b : Int) (S' : List Int) : CALL 10 [Rf ar a b2 c2 S, Rf ar' b b3 c3 S'] = some (B (decide (50 < (S.length : Int) ∨ 50 < (S'.length : Int))), []) := by
  refine lim_run (fn := Try.f10) fn10 rfl body10 (Nat.le_of_ble_eq_true rfl) ok10 ?_
  by_cases h : 50 < (S.length : Int)
  · simp (config := { maxSteps := 1000000 }) (disch := omega) only [push_cast, ↓reduceIte, Nat.reduceEqDiff, Nat.reduceAdd, Nat.reduceLT, Nat.reduceLeDiff, Nat.reduceBEq, Nat.reduceMul, Nat.reduceSub, Int.reduceToNat, Int.reduceEq, Int.reduceLT, Int.reduceLE, Int.reduceNeg, Int.reduceAdd, Int.reduceSub, Int.reduceMul, Try.f10, kr10, ty3, ty4, ty22, ty24, tb4, h, true_or]
  · simp (config := { maxSteps := 1000000 }) (disch := omega) only [push_cast, ↓reduceIte, Nat.reduceEqDiff, Nat.reduceAdd, Nat.reduceLT, Nat.reduceLeDiff, Nat.reduceBEq, Nat.reduceMul, Nat.reduceSub, Int.reduceToNat, Int.reduceEq, Int.reduceLT, Int.reduceLE, Int.reduceNeg, Int.reduceAdd, Int.reduceSub, Int.reduceMul, Try.f10, kr10, ty3, ty4, ty22, ty24, tb4, h, false_or]
/-- The document's Inside. -/
theorem rl_Inside3 (p : List Int) (n e : Int) (hb : p.length ≤ 400) (c1 : Option Nat) : ∀ (r : List Int) (i : Nat), p.drop i = r →
    lp E0 pr0 25 3 ⟨[(2, I n), (8, .sl 0 0 p.length 1 c1), (9, I e), (10, I i)], [(0, .arr (ints p) 0 1)], 1⟩ =
      if ∀ x ∈ r, 0 ≤ x ∧ x < n then some (.exit 0, ⟨[(9, I e)], [], 0⟩) else some (.ret, ⟨[(6, B false), (7, I e)], [], 0⟩) := by
  intro r
  induction r with
  | nil =>
    intro i h1
    have h5 := drop_nil h1
    have h6 : ¬ (i : Int) < p.length := by omega
    rw [if_pos (fun x hx => by simp at hx)]
    rw [lp_eq lp25_3]
    simp (config := { maxSteps := 1000000 }) (disch := omega) only [push_cast, ↓reduceIte, Nat.reduceEqDiff, Nat.reduceAdd, Nat.reduceLT, Nat.reduceLeDiff, Nat.reduceBEq, Nat.reduceMul, Nat.reduceSub, Int.reduceToNat, Int.reduceEq, Int.reduceLT, Int.reduceLE, Int.reduceNeg, Int.reduceAdd, Int.reduceSub, Int.reduceMul, Try.f25, kr25, kp25_3, ow25_3, ty3, ty4, ty22, ty24, ty29, tb4, h6]
  | cons x r ih =>
    intro i h1
    obtain ⟨g1, g2, g3⟩ := drop_cons h1
    have g8 : (i : Int) < p.length := by omega
    have ih' := ih (i + 1) g3
    simp only [cast1, List.length_append, List.length_cons, List.length_nil, Nat.zero_add, Nat.add_zero, Int.natCast_zero, Int.natCast_add, Int.zero_add, ints_1, ints_0, ] at ih'
    have e1 : (∀ z ∈ x :: r, 0 ≤ z ∧ z < n) ↔ (0 ≤ x ∧ x < n) ∧ ∀ z ∈ r, 0 ≤ z ∧ z < n := by simp
    rw [lp_eq lp25_3]
    by_cases q1 : x < 0
    · rw [if_neg fun h => by have := (e1.1 h).1; omega]
      simp (config := { maxSteps := 1000000 }) (disch := omega) only [push_cast, ↓reduceIte, Nat.reduceEqDiff, Nat.reduceAdd, Nat.reduceLT, Nat.reduceLeDiff, Nat.reduceBEq, Nat.reduceMul, Nat.reduceSub, Int.reduceToNat, Int.reduceEq, Int.reduceLT, Int.reduceLE, Int.reduceNeg, Int.reduceAdd, Int.reduceSub, Int.reduceMul, Try.f25, kr25, kp25_3, ow25_3, ty3, ty4, ty22, ty24, ty29, tb4, g1, g8, getD_of g2, q1]
    · by_cases q2 : n ≤ x
      · rw [if_neg fun h => by have := (e1.1 h).1; omega]
        simp (config := { maxSteps := 1000000 }) (disch := omega) only [push_cast, ↓reduceIte, Nat.reduceEqDiff, Nat.reduceAdd, Nat.reduceLT, Nat.reduceLeDiff, Nat.reduceBEq, Nat.reduceMul, Nat.reduceSub, Int.reduceToNat, Int.reduceEq, Int.reduceLT, Int.reduceLE, Int.reduceNeg, Int.reduceAdd, Int.reduceSub, Int.reduceMul, Try.f25, kr25, kp25_3, ow25_3, ty3, ty4, ty22, ty24, ty29, tb4, g1, g8, getD_of g2, q1, q2]
      · by_cases q3 : ∀ z ∈ r, 0 ≤ z ∧ z < n
        · rw [if_pos (e1.2 ⟨by omega, q3⟩)]
          rw [if_pos q3] at ih'
          simp (config := { maxSteps := 1000000 }) (disch := omega) only [push_cast, ↓reduceIte, Nat.reduceEqDiff, Nat.reduceAdd, Nat.reduceLT, Nat.reduceLeDiff, Nat.reduceBEq, Nat.reduceMul, Nat.reduceSub, Int.reduceToNat, Int.reduceEq, Int.reduceLT, Int.reduceLE, Int.reduceNeg, Int.reduceAdd, Int.reduceSub, Int.reduceMul, Try.f25, kr25, kp25_3, ow25_3, ty3, ty4, ty22, ty24, ty29, tb4, g1, g8, getD_of g2, q1, q2, ih']
        · rw [if_neg fun h => q3 (e1.1 h).2]
          rw [if_neg q3] at ih'
          simp (config := { maxSteps := 1000000 }) (disch := omega) only [push_cast, ↓reduceIte, Nat.reduceEqDiff, Nat.reduceAdd, Nat.reduceLT, Nat.reduceLeDiff, Nat.reduceBEq, Nat.reduceMul, Nat.reduceSub, Int.reduceToNat, Int.reduceEq, Int.reduceLT, Int.reduceLE, Int.reduceNeg, Int.reduceAdd, Int.reduceSub, Int.reduceMul, Try.f25, kr25, kp25_3, ow25_3, ty3, ty4, ty22, ty24, ty29, tb4, g1, g8, getD_of g2, q1, q2, ih']
section
variable (ar base : Int) (b1 b2 b3 : Bool) (c1 c2 c3 : Option Nat) (E S : List Int) (ar' base' : Int) (S' : List Int)
theorem r17_Inside (n : Int) : CALL 25 [SL b1 c1 E.length (ints E), Rf ar base b2 c2 S, I n] = some (.tup [B (insideQ base E S n), I (errR base E S)], []) := by
  have hp := fun b c b' c' => r17_Places ar base b b' c c' E S
  have hle := placesR_le base E S
  have hl := rl_Inside3 (placesR base E S) n (errR base E S) hle none (placesR base E S) 0 rfl
  simp only [cast1, List.length_append, List.length_cons, List.length_nil, Nat.zero_add, Nat.add_zero, Int.natCast_zero, Int.natCast_add, Int.zero_add, ints_1, ints_0, ] at hl
  refine lim_run (fn := Try.f25) fn25 rfl body25 (Nat.le_of_ble_eq_true rfl) ok25 ?_
  by_cases h : okR base E S
  · rw [show errR base E S = 0 from if_pos h] at *
    by_cases q : ∀ x ∈ placesR base E S, 0 ≤ x ∧ x < n
    · rw [show insideQ base E S n = true from decide_eq_true ⟨h, q⟩]
      rw [if_pos q] at hl
      simp (config := { maxSteps := 1000000 }) (disch := omega) only [push_cast, ↓reduceIte, Nat.reduceEqDiff, Nat.reduceAdd, Nat.reduceLT, Nat.reduceLeDiff, Nat.reduceBEq, Nat.reduceMul, Nat.reduceSub, Int.reduceToNat, Int.reduceEq, Int.reduceLT, Int.reduceLE, Int.reduceNeg, Int.reduceAdd, Int.reduceSub, Int.reduceMul, Try.f25, kr25, kp25_3, ow25_3, ty3, ty4, ty22, ty24, ty29, tb4, hp, hl]
    · rw [show insideQ base E S n = false from decide_eq_false fun k => q k.2]
      rw [if_neg q] at hl
      simp (config := { maxSteps := 1000000 }) (disch := omega) only [push_cast, ↓reduceIte, Nat.reduceEqDiff, Nat.reduceAdd, Nat.reduceLT, Nat.reduceLeDiff, Nat.reduceBEq, Nat.reduceMul, Nat.reduceSub, Int.reduceToNat, Int.reduceEq, Int.reduceLT, Int.reduceLE, Int.reduceNeg, Int.reduceAdd, Int.reduceSub, Int.reduceMul, Try.f25, kr25, kp25_3, ow25_3, ty3, ty4, ty22, ty24, ty29, tb4, hp, hl]
  · rw [show errR base E S = 2 from if_neg h] at *
    rw [show placesR base E S = [] from if_neg h] at hp hl
    rw [if_pos (fun x hx => by simp at hx)] at hl
    rw [show insideQ base E S n = false from decide_eq_false fun k => h k.1]
    simp only [List.length_nil, ints_0, Int.natCast_zero] at hp hl
    simp (config := { maxSteps := 1000000 }) (disch := omega) only [push_cast, ↓reduceIte, Nat.reduceEqDiff, Nat.reduceAdd, Nat.reduceLT, Nat.reduceLeDiff, Nat.reduceBEq, Nat.reduceMul, Nat.reduceSub, Int.reduceToNat, Int.reduceEq, Int.reduceLT, Int.reduceLE, Int.reduceNeg, Int.reduceAdd, Int.reduceSub, Int.reduceMul, Try.f25, kr25, kp25_3, ow25_3, ty3, ty4, ty22, ty24, ty29, tb4, hp, hl]
end
def dupF : List Int → List Int → Bool
  | _, [] => false
  | s, x :: r => if x ∈ s then true else dupF (s ++ [x]) r
theorem dupF_iff : ∀ (r s : List Int), s.Nodup → (dupF s r = true ↔ ¬ (s ++ r).Nodup)
  | [], s, h => by simp [dupF, h]
  | x :: r, s, h => by
    unfold dupF
    by_cases hx : x ∈ s
    · rw [if_pos hx]
      simp only [true_iff]
      intro hn
      rw [List.nodup_append] at hn
      exact hn.2.2 x hx x (by simp) rfl
    · rw [if_neg hx, dupF_iff r (s ++ [x]) (by rw [List.nodup_append]; exact ⟨h, by simp, fun a ha b hb q => by simp at hb; subst hb; subst q; exact hx ha⟩), List.append_assoc]
      rfl
theorem dupF_nil (p : List Int) : dupF [] p = decide (¬ p.Nodup) := by
  rw [Bool.eq_iff_iff, decide_eq_true_eq, dupF_iff p [] List.nodup_nil, List.nil_append]
theorem take_drop_cons {p : List Int} {i k : Nat} {y : Int} (hk : p[k]? = some y) (hlt : k < i) : (p.take i).drop k = y :: (p.take i).drop (k + 1) := by
  have h1 : k < p.length := by rcases Nat.lt_or_ge k p.length with h' | h'; exact h'; simp [h'] at hk
  have h2 : k < (p.take i).length := by rw [List.length_take]; omega
  rw [List.drop_eq_getElem_cons h2, List.getElem_take]
  rw [List.getElem?_eq_getElem h1] at hk
  rw [Option.some.inj hk]
theorem rl_Twice6 (p : List Int) (e : Int) (hb : p.length ≤ 400) (c1 : Option Nat) (i : Nat) (x : Int) (hi : p[i]? = some x) : ∀ (d k : Nat), k + d = i →
    lp E0 pr0 27 6 ⟨[(6, .sl 0 0 p.length 1 c1), (7, I e), (8, I i), (9, I k)], [(0, .arr (ints p) 0 1)], 1⟩ =
      if x ∈ (p.take i).drop k then some (.ret, ⟨[(4, B true), (5, I e)], [], 0⟩) else some (.exit 2, ⟨[(6, .sl 0 0 p.length 1 c1), (7, I e), (8, I i)], [(0, .arr (ints p) 0 1)], 1⟩) := by
  have hil : i < p.length := by rcases Nat.lt_or_ge i p.length with h' | h'; exact h'; simp [h'] at hi
  have hil' : (i : Int) < p.length := by omega
  intro d
  induction d with
  | zero =>
    intro k h1
    have h6 : ¬ (k : Int) < i := by omega
    have h7 : (p.take i).drop k = [] := List.drop_eq_nil_iff.2 (by rw [List.length_take]; omega)
    rw [h7, if_neg (by simp)]
    rw [lp_eq lp27_6]
    simp (config := { maxSteps := 1000000 }) (disch := omega) only [push_cast, ↓reduceIte, Nat.reduceEqDiff, Nat.reduceAdd, Nat.reduceLT, Nat.reduceLeDiff, Nat.reduceBEq, Nat.reduceMul, Nat.reduceSub, Int.reduceToNat, Int.reduceEq, Int.reduceLT, Int.reduceLE, Int.reduceNeg, Int.reduceAdd, Int.reduceSub, Int.reduceMul, Try.f27, kr27, kp27_6, kp27_3, ow27_6, ow27_3, ty3, ty4, ty22, ty24, ty29, tb4, h6]
  | succ d ih =>
    intro k h1
    have h6 : (k : Int) < i := by omega
    have h8 : (k : Int) < p.length := by omega
    have h9 : k < p.length := by omega
    obtain ⟨y, hy⟩ : ∃ y, p[k]? = some y := ⟨_, List.getElem?_eq_getElem h9⟩
    have ih' := ih (k + 1) (by omega)
    simp only [cast1, List.length_append, List.length_cons, List.length_nil, Nat.zero_add, Nat.add_zero, Int.natCast_zero, Int.natCast_add, Int.zero_add, ints_1, ints_0, ] at ih'
    rw [take_drop_cons hy (by omega)]
    rw [lp_eq lp27_6]
    by_cases q : x = y
    · rw [if_pos (by rw [q]; simp)]
      simp (config := { maxSteps := 1000000 }) (disch := omega) only [push_cast, ↓reduceIte, Nat.reduceEqDiff, Nat.reduceAdd, Nat.reduceLT, Nat.reduceLeDiff, Nat.reduceBEq, Nat.reduceMul, Nat.reduceSub, Int.reduceToNat, Int.reduceEq, Int.reduceLT, Int.reduceLE, Int.reduceNeg, Int.reduceAdd, Int.reduceSub, Int.reduceMul, Try.f27, kr27, kp27_6, kp27_3, ow27_6, ow27_3, ty3, ty4, ty22, ty24, ty29, tb4, h6, hil, hil', h8, h9, getD_of hi, getD_of hy, q]
    · have e1 : x ∈ y :: (p.take i).drop (k + 1) ↔ x ∈ (p.take i).drop (k + 1) := by simp [q]
      simp only [e1]
      simp (config := { maxSteps := 1000000 }) (disch := omega) only [push_cast, ↓reduceIte, Nat.reduceEqDiff, Nat.reduceAdd, Nat.reduceLT, Nat.reduceLeDiff, Nat.reduceBEq, Nat.reduceMul, Nat.reduceSub, Int.reduceToNat, Int.reduceEq, Int.reduceLT, Int.reduceLE, Int.reduceNeg, Int.reduceAdd, Int.reduceSub, Int.reduceMul, Try.f27, kr27, kp27_6, kp27_3, ow27_6, ow27_3, ty3, ty4, ty22, ty24, ty29, tb4, h6, hil, hil', h8, h9, getD_of hi, getD_of hy, q, ih']
theorem rl_Twice3 (p : List Int) (e : Int) (hb : p.length ≤ 400) (c1 : Option Nat) : ∀ (r : List Int) (i : Nat), p.drop i = r →
    lp E0 pr0 27 3 ⟨[(6, .sl 0 0 p.length 1 c1), (7, I e), (8, I i)], [(0, .arr (ints p) 0 1)], 1⟩ =
      if dupF (p.take i) r then some (.ret, ⟨[(4, B true), (5, I e)], [], 0⟩) else some (.exit 0, ⟨[(7, I e)], [], 0⟩) := by
  intro r
  induction r with
  | nil =>
    intro i h1
    have h5 := drop_nil h1
    have h6 : ¬ (i : Int) < p.length := by omega
    rw [show dupF (p.take i) [] = false from rfl, if_neg (by simp)]
    rw [lp_eq lp27_3]
    simp (config := { maxSteps := 1000000 }) (disch := omega) only [push_cast, ↓reduceIte, Nat.reduceEqDiff, Nat.reduceAdd, Nat.reduceLT, Nat.reduceLeDiff, Nat.reduceBEq, Nat.reduceMul, Nat.reduceSub, Int.reduceToNat, Int.reduceEq, Int.reduceLT, Int.reduceLE, Int.reduceNeg, Int.reduceAdd, Int.reduceSub, Int.reduceMul, Try.f27, kr27, kp27_6, kp27_3, ow27_6, ow27_3, ty3, ty4, ty22, ty24, ty29, tb4, h6]
  | cons x r ih =>
    intro i h1
    obtain ⟨g1, g2, g3⟩ := drop_cons h1
    have g8 : (i : Int) < p.length := by omega
    have ih' := ih (i + 1) g3
    simp only [cast1, List.length_append, List.length_cons, List.length_nil, Nat.zero_add, Nat.add_zero, Int.natCast_zero, Int.natCast_add, Int.zero_add, ints_1, ints_0, ] at ih'
    have hl := rl_Twice6 p e hb c1 i x g2 i 0 (by omega)
    rw [List.drop_zero] at hl
    simp only [cast1, List.length_append, List.length_cons, List.length_nil, Nat.zero_add, Nat.add_zero, Int.natCast_zero, Int.natCast_add, Int.zero_add, ints_1, ints_0, ] at hl
    have ht : p.take (i + 1) = p.take i ++ [x] := by
      rw [List.take_add_one, g2]; rfl
    unfold dupF
    rw [lp_eq lp27_3]
    by_cases q : x ∈ p.take i
    · rw [if_pos q] at hl
      rw [if_pos q]
      simp (config := { maxSteps := 1000000 }) (disch := omega) only [push_cast, ↓reduceIte, Nat.reduceEqDiff, Nat.reduceAdd, Nat.reduceLT, Nat.reduceLeDiff, Nat.reduceBEq, Nat.reduceMul, Nat.reduceSub, Int.reduceToNat, Int.reduceEq, Int.reduceLT, Int.reduceLE, Int.reduceNeg, Int.reduceAdd, Int.reduceSub, Int.reduceMul, Try.f27, kr27, kp27_6, kp27_3, ow27_6, ow27_3, ty3, ty4, ty22, ty24, ty29, tb4, g1, g8, hl]
    · rw [if_neg q] at hl
      rw [if_neg q, ← ht]
      simp (config := { maxSteps := 1000000 }) (disch := omega) only [push_cast, ↓reduceIte, Nat.reduceEqDiff, Nat.reduceAdd, Nat.reduceLT, Nat.reduceLeDiff, Nat.reduceBEq, Nat.reduceMul, Nat.reduceSub, Int.reduceToNat, Int.reduceEq, Int.reduceLT, Int.reduceLE, Int.reduceNeg, Int.reduceAdd, Int.reduceSub, Int.reduceMul, Try.f27, kr27, kp27_6, kp27_3, ow27_6, ow27_3, ty3, ty4, ty22, ty24, ty29, tb4, g1, g8, hl, ih']
section
variable (ar base : Int) (b1 b2 b3 : Bool) (c1 c2 c3 : Option Nat) (E S : List Int) (ar' base' : Int) (S' : List Int)
theorem r17_Twice : CALL 27 [SL b1 c1 E.length (ints E), Rf ar base b2 c2 S] = some (.tup [B (decide (¬ (placesR base E S).Nodup)), I (errR base E S)], []) := by
  have hp := fun b c b' c' => r17_Places ar base b b' c c' E S
  have hle := placesR_le base E S
  have hl := rl_Twice3 (placesR base E S) (errR base E S) hle none (placesR base E S) 0 rfl
  rw [List.take_zero, dupF_nil] at hl
  simp only [cast1, List.length_append, List.length_cons, List.length_nil, Nat.zero_add, Nat.add_zero, Int.natCast_zero, Int.natCast_add, Int.zero_add, ints_1, ints_0, ] at hl
  refine lim_run (fn := Try.f27) fn27 rfl body27 (Nat.le_of_ble_eq_true rfl) ok27 ?_
  by_cases q : (placesR base E S).Nodup
  · rw [decide_eq_false (show ¬ ¬ (placesR base E S).Nodup from fun k => k q)] at hl ⊢
    rw [if_neg (by simp)] at hl
    simp (config := { maxSteps := 1000000 }) (disch := omega) only [push_cast, ↓reduceIte, Nat.reduceEqDiff, Nat.reduceAdd, Nat.reduceLT, Nat.reduceLeDiff, Nat.reduceBEq, Nat.reduceMul, Nat.reduceSub, Int.reduceToNat, Int.reduceEq, Int.reduceLT, Int.reduceLE, Int.reduceNeg, Int.reduceAdd, Int.reduceSub, Int.reduceMul, Try.f27, kr27, kp27_6, kp27_3, ow27_6, ow27_3, ty3, ty4, ty22, ty24, ty29, tb4, hp, hl]
  · rw [decide_eq_true (show ¬ (placesR base E S).Nodup from q)] at hl ⊢
    rw [if_pos rfl] at hl
    simp (config := { maxSteps := 1000000 }) (disch := omega) only [push_cast, ↓reduceIte, Nat.reduceEqDiff, Nat.reduceAdd, Nat.reduceLT, Nat.reduceLeDiff, Nat.reduceBEq, Nat.reduceMul, Nat.reduceSub, Int.reduceToNat, Int.reduceEq, Int.reduceLT, Int.reduceLE, Int.reduceNeg, Int.reduceAdd, Int.reduceSub, Int.reduceMul, Try.f27, kr27, kp27_6, kp27_3, ow27_6, ow27_3, ty3, ty4, ty22, ty24, ty29, tb4, hp, hl]
end
section
variable (b b' : Bool) (c c' : Option Nat) (l l' : List Int)
theorem rl_SameInts (hl : l.length = l'.length) (hb : (l.length : Int) ≤ 9223372036854775806) : ∀ (r : List Int) (i : Nat), l.drop i = r →
    lp E0 pr0 17 4 ⟨[(0, SL b c l.length (ints l)), (1, SL b' c' l'.length (ints l')), (5, I i)], [], 0⟩ =
      if r = l'.drop i then some (.exit 0, ⟨[], [], 0⟩) else some (.ret, ⟨[(4, B false)], [], 0⟩) := by
  intro r
  induction r with
  | nil =>
    intro i h1
    have h5 := drop_nil h1
    have h6 : ¬ (i : Int) < l.length := by omega
    rw [if_pos (List.drop_eq_nil_iff.2 (by omega)).symm]
    rw [lp_eq lp17_4]
    simp (config := { maxSteps := 1000000 }) (disch := omega) only [push_cast, ↓reduceIte, Nat.reduceEqDiff, Nat.reduceAdd, Nat.reduceLT, Nat.reduceLeDiff, Nat.reduceBEq, Nat.reduceMul, Nat.reduceSub, Int.reduceToNat, Int.reduceEq, Int.reduceLT, Int.reduceLE, Int.reduceNeg, Int.reduceAdd, Int.reduceSub, Int.reduceMul, Try.f17, kr17, kp17_4, ow17_4, ty3, ty4, ty22, tb4, h6]
  | cons x r ih =>
    intro i h1
    obtain ⟨g1, g2, g3⟩ := drop_cons h1
    have g8 : (i : Int) < l.length := by omega
    have g9 : (i : Int) < l'.length := by omega
    have g10 : i < l'.length := by omega
    obtain ⟨y, hy⟩ : ∃ y, l'[i]? = some y := ⟨_, List.getElem?_eq_getElem (by omega)⟩
    have e : l'.drop i = y :: l'.drop (i + 1) := by
      rw [List.drop_eq_getElem_cons (by omega)]
      rw [List.getElem?_eq_getElem (by omega), Option.some.injEq] at hy
      rw [hy]
    have ih' := ih (i + 1) g3
    simp only [cast1, List.length_append, List.length_cons, List.length_nil, Nat.zero_add, Nat.add_zero, Int.natCast_zero, Int.natCast_add, Int.zero_add, ints_1, ints_0, ] at ih'
    rw [e]
    rw [lp_eq lp17_4]
    by_cases q : x = y
    · subst q
      simp only [List.cons.injEq, true_and]
      simp (config := { maxSteps := 1000000 }) (disch := omega) only [push_cast, ↓reduceIte, Nat.reduceEqDiff, Nat.reduceAdd, Nat.reduceLT, Nat.reduceLeDiff, Nat.reduceBEq, Nat.reduceMul, Nat.reduceSub, Int.reduceToNat, Int.reduceEq, Int.reduceLT, Int.reduceLE, Int.reduceNeg, Int.reduceAdd, Int.reduceSub, Int.reduceMul, Try.f17, kr17, kp17_4, ow17_4, ty3, ty4, ty22, tb4, g1, g8, g9, g10, getD_of g2, getD_of hy, ih', ne_eq]
    · rw [if_neg fun k => q (List.cons.inj k).1]
      simp (config := { maxSteps := 1000000 }) (disch := omega) only [push_cast, ↓reduceIte, Nat.reduceEqDiff, Nat.reduceAdd, Nat.reduceLT, Nat.reduceLeDiff, Nat.reduceBEq, Nat.reduceMul, Nat.reduceSub, Int.reduceToNat, Int.reduceEq, Int.reduceLT, Int.reduceLE, Int.reduceNeg, Int.reduceAdd, Int.reduceSub, Int.reduceMul, Try.f17, kr17, kp17_4, ow17_4, ty3, ty4, ty22, tb4, g1, g8, g9, g10, getD_of g2, getD_of hy, q, ne_eq]
theorem r17_SameInts (hb : (l.length : Int) ≤ 9223372036854775806) : CALL 17 [SL b c l.length (ints l), SL b' c' l'.length (ints l')] = some (B (decide (l = l')), []) := by
  refine lim_run (fn := Try.f17) fn17 rfl body17 (Nat.le_of_ble_eq_true rfl) ok17 ?_
  by_cases h : (l.length : Int) = l'.length
  · have hl := rl_SameInts b b' c c' l l' (by omega) hb l 0 rfl
    rw [List.drop_zero] at hl
    simp only [cast1, List.length_append, List.length_cons, List.length_nil, Nat.zero_add, Nat.add_zero, Int.natCast_zero, Int.natCast_add, Int.zero_add, ints_1, ints_0, ] at hl
    by_cases q : l = l'
    · rw [if_pos q] at hl
      rw [decide_eq_true q]
      simp (config := { maxSteps := 1000000 }) (disch := omega) only [push_cast, ↓reduceIte, Nat.reduceEqDiff, Nat.reduceAdd, Nat.reduceLT, Nat.reduceLeDiff, Nat.reduceBEq, Nat.reduceMul, Nat.reduceSub, Int.reduceToNat, Int.reduceEq, Int.reduceLT, Int.reduceLE, Int.reduceNeg, Int.reduceAdd, Int.reduceSub, Int.reduceMul, Try.f17, kr17, kp17_4, ow17_4, ty3, ty4, ty22, tb4, h, hl, ne_eq]
    · rw [if_neg q] at hl
      rw [decide_eq_false q]
      simp (config := { maxSteps := 1000000 }) (disch := omega) only [push_cast, ↓reduceIte, Nat.reduceEqDiff, Nat.reduceAdd, Nat.reduceLT, Nat.reduceLeDiff, Nat.reduceBEq, Nat.reduceMul, Nat.reduceSub, Int.reduceToNat, Int.reduceEq, Int.reduceLT, Int.reduceLE, Int.reduceNeg, Int.reduceAdd, Int.reduceSub, Int.reduceMul, Try.f17, kr17, kp17_4, ow17_4, ty3, ty4, ty22, tb4, h, hl, ne_eq]
  · rw [decide_eq_false (fun q : l = l' => h (by rw [q]))]
    simp (config := { maxSteps := 1000000 }) (disch := omega) only [push_cast, ↓reduceIte, Nat.reduceEqDiff, Nat.reduceAdd, Nat.reduceLT, Nat.reduceLeDiff, Nat.reduceBEq, Nat.reduceMul, Nat.reduceSub, Int.reduceToNat, Int.reduceEq, Int.reduceLT, Int.reduceLE, Int.reduceNeg, Int.reduceAdd, Int.reduceSub, Int.reduceMul, Try.f17, kr17, kp17_4, ow17_4, ty3, ty4, ty22, tb4, h, ne_eq]
end
end Go.Proofs.Ytancjhajhdhfbaa.Tev
