/- The document's Range, Inside and Twice; the sizes that the laws ask of. -/
import Derived.Test.YtnbijiopcgfmfaaC17d
namespace Go.Proofs.Ytnbijiopcgfmfaa.Tev
open Go Go.RowKit Go.Proofs Go.Proofs.Ytnbijiopcgfmfaa.Q
set_option linter.unusedSectionVars false
set_option maxRecDepth 100000
set_option maxHeartbeats 0
set_option linter.unusedSimpArgs false
set_option linter.unusedVariables false
theorem fold_mn {m : Int} : ∀ (l : List Int) (x : Int), (∀ y ∈ l, m ≤ y) → m ≤ x → (m ∈ l ∨ m = x) → l.foldl mn x = m
  | [], x, _, _, h => by simpa using h.elim (fun q => by simp at q) (fun q => q.symm)
  | y :: l, x, h1, h2, h => by
    have hy := h1 y (by simp)
    refine fold_mn l (mn x y) (fun z hz => h1 z (by simp [hz])) (by unfold mn; split <;> omega) ?_
    rcases h with h | rfl
    · rcases List.mem_cons.1 h with rfl | h
      · right; unfold mn; split <;> omega
      · exact .inl h
    · right; unfold mn; split <;> omega
theorem fold_mx {m : Int} : ∀ (l : List Int) (x : Int), (∀ y ∈ l, y ≤ m) → x ≤ m → (m ∈ l ∨ m = x) → l.foldl mx x = m
  | [], x, _, _, h => by simpa using h.elim (fun q => by simp at q) (fun q => q.symm)
  | y :: l, x, h1, h2, h => by
    have hy := h1 y (by simp)
    refine fold_mx l (mx x y) (fun z hz => h1 z (by simp [hz])) (by unfold mx; split <;> omega) ?_
    rcases h with h | rfl
    · rcases List.mem_cons.1 h with rfl | h
      · right; unfold mx; split <;> omega
      · exact .inl h
    · right; unfold mx; split <;> omega
section
variable (ar base : Int) (b1 b2 b3 : Bool) (c1 c2 c3 : Option Nat) (E S : List Int) (ar' base' : Int) (S' : List Int)
end

section
variable (ar base : Int) (b1 b2 b3 : Bool) (c1 c2 c3 : Option Nat) (E S : List Int) (ar' base' : Int) (S' : List Int)
end
def dupF : List Int → List Int → Bool
  | _, [] => false
  | s, x :: r => if x ∈ s then true else dupF (s ++ [x]) r
theorem dupF_iff : ∀ (r s : List Int), s.Nodup → (dupF s r = true ↔ ¬ (s ++ r).Nodup)
  | [], s, h => by simp [dupF, h]
  | x :: r, s, h => by
    unfold dupF
    by_cases hx : x ∈ s
    · rw [if_pos hx]
      simp only [true_iff]
      intro hn
      rw [List.nodup_append] at hn
      exact hn.2.2 x hx x (by simp) rfl
    · rw [if_neg hx, dupF_iff r (s ++ [x]) (by rw [List.nodup_append]; exact ⟨h, by simp, fun a ha b hb q => by simp at hb; subst hb; subst q; exact hx ha⟩), List.append_assoc]
      rfl
theorem dupF_nil (p : List Int) : dupF [] p = decide (¬ p.Nodup) := by
  rw [Bool.eq_iff_iff, decide_eq_true_eq, dupF_iff p [] List.nodup_nil, List.nil_append]
theorem take_drop_cons {p : List Int} {i k : Nat} {y : Int} (hk : p[k]? = some y) (hlt : k < i) : (p.take i).drop k = y :: (p.take i).drop (k + 1) := by
  have h1 : k < p.length := by rcases Nat.lt_or_ge k p.length with h' | h'; exact h'; simp [h'] at hk
  have h2 : k < (p.take i).length := by rw [List.length_take]; omega
  rw [List.drop_eq_getElem_cons h2, List.getElem_take]
  rw [List.getElem?_eq_getElem h1] at hk
  rw [Option.some.inj hk]
section
variable (ar base : Int) (b1 b2 b3 : Bool) (c1 c2 c3 : Option Nat) (E S : List Int) (ar' base' : Int) (S' : List Int)
end
section
variable (b b' : Bool) (c c' : Option Nat) (l l' : List Int)
theorem rl_SameInts (hl : l.length = l'.length) (hb : (l.length : Int) ≤ 9223372036854775806) : ∀ (r : List Int) (i : Nat), l.drop i = r →
    lp E0 pr0 25 4 ⟨[(0, SL b c l.length (ints l)), (1, SL b' c' l'.length (ints l')), (5, I i)], [], 0⟩ =
      if r = l'.drop i then some (.exit 0, ⟨[], [], 0⟩) else some (.ret, ⟨[(4, B false)], [], 0⟩) := by
  intro r
  induction r with
  | nil =>
    intro i h1
    have h5 := drop_nil h1
    have h6 : ¬ (i : Int) < l.length := by omega
    rw [if_pos (List.drop_eq_nil_iff.2 (by omega)).symm]
    rw [lp_eq lp25_4]
    simp (config := { maxSteps := 1000000 }) (disch := omega) only [push_cast, ↓reduceIte, Nat.reduceEqDiff, Nat.reduceAdd, Nat.reduceLT, Nat.reduceLeDiff, Nat.reduceBEq, Nat.reduceMul, Nat.reduceSub, Int.reduceToNat, Int.reduceEq, Int.reduceLT, Int.reduceLE, Int.reduceNeg, Int.reduceAdd, Int.reduceSub, Int.reduceMul, Try.f25, kr25, kp25_4, ow25_4, ty3, ty4, ty28, tb4, h6]
  | cons x r ih =>
    intro i h1
    obtain ⟨g1, g2, g3⟩ := drop_cons h1
    have g8 : (i : Int) < l.length := by omega
    have g9 : (i : Int) < l'.length := by omega
    have g10 : i < l'.length := by omega
    obtain ⟨y, hy⟩ : ∃ y, l'[i]? = some y := ⟨_, List.getElem?_eq_getElem (by omega)⟩
    have e : l'.drop i = y :: l'.drop (i + 1) := by
      rw [List.drop_eq_getElem_cons (by omega)]
      rw [List.getElem?_eq_getElem (by omega), Option.some.injEq] at hy
      rw [hy]
    have ih' := ih (i + 1) g3
    simp only [cast1, List.length_append, List.length_cons, List.length_nil, Nat.zero_add, Nat.add_zero, Int.natCast_zero, Int.natCast_add, Int.zero_add, ints_1, ints_0, ] at ih'
    rw [e]
    rw [lp_eq lp25_4]
    by_cases q : x = y
    · subst q
      simp only [List.cons.injEq, true_and]
      simp (config := { maxSteps := 1000000 }) (disch := omega) only [push_cast, ↓reduceIte, Nat.reduceEqDiff, Nat.reduceAdd, Nat.reduceLT, Nat.reduceLeDiff, Nat.reduceBEq, Nat.reduceMul, Nat.reduceSub, Int.reduceToNat, Int.reduceEq, Int.reduceLT, Int.reduceLE, Int.reduceNeg, Int.reduceAdd, Int.reduceSub, Int.reduceMul, Try.f25, kr25, kp25_4, ow25_4, ty3, ty4, ty28, tb4, g1, g8, g9, g10, getD_of g2, getD_of hy, ih', ne_eq]
    · rw [if_neg fun k => q (List.cons.inj k).1]
      simp (config := { maxSteps := 1000000 }) (disch := omega) only [push_cast, ↓reduceIte, Nat.reduceEqDiff, Nat.reduceAdd, Nat.reduceLT, Nat.reduceLeDiff, Nat.reduceBEq, Nat.reduceMul, Nat.reduceSub, Int.reduceToNat, Int.reduceEq, Int.reduceLT, Int.reduceLE, Int.reduceNeg, Int.reduceAdd, Int.reduceSub, Int.reduceMul, Try.f25, kr25, kp25_4, ow25_4, ty3, ty4, ty28, tb4, g1, g8, g9, g10, getD_of g2, getD_of hy, q, ne_eq]
theorem r17_SameInts (hb : (l.length : Int) ≤ 9223372036854775806) : CALL 25 [SL b c l.length (ints l), SL b' c' l'.length (ints l')] = some (B (decide (l = l')), []) := by
  refine lim_run (fn := Try.f25) fn25 rfl body25 (Nat.le_of_ble_eq_true rfl) ok25 ?_
  by_cases h : (l.length : Int) = l'.length
  · have hl := rl_SameInts b b' c c' l l' (by omega) hb l 0 rfl
    rw [List.drop_zero] at hl
    simp only [cast1, List.length_append, List.length_cons, List.length_nil, Nat.zero_add, Nat.add_zero, Int.natCast_zero, Int.natCast_add, Int.zero_add, ints_1, ints_0, ] at hl
    by_cases q : l = l'
    · rw [if_pos q] at hl
      rw [decide_eq_true q]
      simp (config := { maxSteps := 1000000 }) (disch := omega) only [push_cast, ↓reduceIte, Nat.reduceEqDiff, Nat.reduceAdd, Nat.reduceLT, Nat.reduceLeDiff, Nat.reduceBEq, Nat.reduceMul, Nat.reduceSub, Int.reduceToNat, Int.reduceEq, Int.reduceLT, Int.reduceLE, Int.reduceNeg, Int.reduceAdd, Int.reduceSub, Int.reduceMul, Try.f25, kr25, kp25_4, ow25_4, ty3, ty4, ty28, tb4, h, hl, ne_eq]
    · rw [if_neg q] at hl
      rw [decide_eq_false q]
      simp (config := { maxSteps := 1000000 }) (disch := omega) only [push_cast, ↓reduceIte, Nat.reduceEqDiff, Nat.reduceAdd, Nat.reduceLT, Nat.reduceLeDiff, Nat.reduceBEq, Nat.reduceMul, Nat.reduceSub, Int.reduceToNat, Int.reduceEq, Int.reduceLT, Int.reduceLE, Int.reduceNeg, Int.reduceAdd, Int.reduceSub, Int.reduceMul, Try.f25, kr25, kp25_4, ow25_4, ty3, ty4, ty28, tb4, h, hl, ne_eq]
  · rw [decide_eq_false (fun q : l = l' => h (by rw [q]))]
    simp (config := { maxSteps := 1000000 }) (disch := omega) only [push_cast, ↓reduceIte, Nat.reduceEqDiff, Nat.reduceAdd, Nat.reduceLT, Nat.reduceLeDiff, Nat.reduceBEq, Nat.reduceMul, Nat.reduceSub, Int.reduceToNat, Int.reduceEq, Int.reduceLT, Int.reduceLE, Int.reduceNeg, Int.reduceAdd, Int.reduceSub, Int.reduceMul, Try.f25, kr25, kp25_4, ow25_4, ty3, ty4, ty28, tb4, h, ne_eq]
end
end Go.Proofs.Ytnbijiopcgfmfaa.Tev
