/- The document's Range, Inside and Twice; the sizes that the laws ask of. -/
import Derived.Test.YtancjhajhdhfbaaC17d
namespace Go.Proofs.Ytancjhajhdhfbaa.Tev
open Go Go.RowKit Go.Proofs Go.Proofs.Ytancjhajhdhfbaa.Q
set_option linter.unusedSectionVars false
set_option maxRecDepth 100000
set_option maxHeartbeats 0
set_option linter.unusedSimpArgs false
set_option linter.unusedVariables false
theorem fold_mn {m : Int} : ∀ (l : List Int) (x : Int), (∀ y ∈ l, m ≤ y) → m ≤ x → (m ∈ l ∨ m = x) → l.foldl mn x = m
  | [], x, _, _, h => by simpa using h.elim (fun q => by simp at q) (fun q => q.symm)
  | y :: l, x, h1, h2, h => by
    have hy := h1 y (by simp)
    refine fold_mn l (mn x y) (fun z hz => h1 z (by simp [hz])) (by unfold mn; split <;> omega) ?_
    rcases h with h | rfl
    · rcases List.mem_cons.1 h with rfl | h
      · right; unfold mn; split <;> omega
      · exact .inl h
    · right; unfold mn; split <;> omega
theorem fold_mx {m : Int} : ∀ (l : List Int) (x : Int), (∀ y ∈ l, y ≤ m) → x ≤ m → (m ∈ l ∨ m = x) → l.foldl mx x = m
  | [], x, _, _, h => by simpa using h.elim (fun q => by simp at q) (fun q => q.symm)
  | y :: l, x, h1, h2, h => by
    have hy := h1 y (by simp)
    refine fold_mx l (mx x y) (fun z hz => h1 z (by simp [hz])) (by unfold mx; split <;> omega) ?_
    rcases h with h | rfl
    · rcases List.mem_cons.1 h with rfl | h
      · right; unfold mx; split <;> omega
      · exact .inl h
    · right; unfold mx; split <;> omega
theorem rl_Range8 (p q : List Int) (hl : p.length = q.length) (hb : p.length ≤ 400) (c1 c2 : Option Nat) : ∀ (r : List Int) (i : Nat) (la ta lb tb : Int), p.drop i = r →
    lp E0 pr0 33 8 ⟨[(8, .sl 0 0 p.length 1 c1), (9, .sl 1 0 q.length 1 c2), (10, I la), (11, I ta), (12, I lb), (13, I tb), (14, I i)], [(0, .arr (ints p) 0 1), (1, .arr (ints q) 1 1)], 2⟩ =
      some (.exit 0, ⟨[(10, I (r.foldl mn la)), (11, I (r.foldl mx ta)), (12, I ((q.drop i).foldl mn lb)), (13, I ((q.drop i).foldl mx tb))], [], 0⟩) := by
  intro r
  induction r with
  | nil =>
    intro i la ta lb tb h1
    have h5 := drop_nil h1
    have h6 : ¬ (i : Int) < p.length := by omega
    have h7 : q.drop i = [] := List.drop_eq_nil_iff.2 (by omega)
    rw [lp_eq lp33_8]
    simp (config := { maxSteps := 1000000 }) (disch := omega) only [push_cast, ↓reduceIte, Nat.reduceEqDiff, Nat.reduceAdd, Nat.reduceLT, Nat.reduceLeDiff, Nat.reduceBEq, Nat.reduceMul, Nat.reduceSub, Int.reduceToNat, Int.reduceEq, Int.reduceLT, Int.reduceLE, Int.reduceNeg, Int.reduceAdd, Int.reduceSub, Int.reduceMul, Try.f33, kr33, kp33_8, ow33_8, ty3, ty4, ty22, ty24, ty29, tb4, h6, h7, List.foldl_nil]
  | cons x r ih =>
    intro i la ta lb tb h1
    obtain ⟨g1, g2, g3⟩ := drop_cons h1
    have g8 : (i : Int) < p.length := by omega
    obtain ⟨y, hy⟩ : ∃ y, q[i]? = some y := ⟨_, List.getElem?_eq_getElem (by omega)⟩
    have e : q.drop i = y :: q.drop (i + 1) := by
      rw [List.drop_eq_getElem_cons (by omega)]
      rw [List.getElem?_eq_getElem (by omega), Option.some.injEq] at hy
      rw [hy]
    have g9 : i < q.length := by omega
    have g10 : (i : Int) < q.length := by omega
    have ih' := ih (i + 1) (mn la x) (mx ta x) (mn lb y) (mx tb y) g3
    rw [e]
    simp only [List.foldl_cons]
    simp only [cast1, List.length_append, List.length_cons, List.length_nil, Nat.zero_add, Nat.add_zero, Int.natCast_zero, Int.natCast_add, Int.zero_add, ints_1, ints_0, ] at ih'
    rw [lp_eq lp33_8]
    simp (config := { maxSteps := 1000000 }) (disch := omega) only [push_cast, ↓reduceIte, Nat.reduceEqDiff, Nat.reduceAdd, Nat.reduceLT, Nat.reduceLeDiff, Nat.reduceBEq, Nat.reduceMul, Nat.reduceSub, Int.reduceToNat, Int.reduceEq, Int.reduceLT, Int.reduceLE, Int.reduceNeg, Int.reduceAdd, Int.reduceSub, Int.reduceMul, Try.f33, kr33, kp33_8, ow33_8, ty3, ty4, ty22, ty24, ty29, tb4, g1, g8, g9, g10, getD_of g2, getD_of hy, ih']
section
variable (ar base : Int) (b1 b2 b3 : Bool) (c1 c2 c3 : Option Nat) (E S : List Int) (ar' base' : Int) (S' : List Int)
theorem r17_Range : CALL 33 [SL b1 c1 E.length (ints E), Rf ar base b2 c2 S, Rf ar' base' b3 c3 S'] = some (.tup [B (decide (ar = ar') && rangeQ base E S base' S'), I (errRR base E S base' S')], []) := by
  have ha := fun b1 c1 b2 c2 b3 c3 => r17_asked ar base b1 b2 c1 c2 E S ar' base' b3 c3 S'
  have hT := fun b c => r17_Turns b c E
  refine lim_run (fn := Try.f33) fn33 rfl body33 (Nat.le_of_ble_eq_true rfl) ok33 ?_
  unfold errRR
  by_cases h : okR base E S ∧ okR base' E S'
  · by_cases e1 : ar = ar'
    · subst e1
      have hm := many_some h.1.1
      by_cases h0 : pr E = 0
      · have hq : rangeQ base E S base' S' = false := decide_eq_false fun q => q.1.2.2 h0
        simp (config := { maxSteps := 1000000 }) (disch := omega) only [push_cast, ↓reduceIte, Nat.reduceEqDiff, Nat.reduceAdd, Nat.reduceLT, Nat.reduceLeDiff, Nat.reduceBEq, Nat.reduceMul, Nat.reduceSub, Int.reduceToNat, Int.reduceEq, Int.reduceLT, Int.reduceLE, Int.reduceNeg, Int.reduceAdd, Int.reduceSub, Int.reduceMul, Try.f33, kr33, kp33_8, ow33_8, ty3, ty4, ty22, ty24, ty29, tb4, ha, h, hT, hm, h0, hq, ne_eq]
      · have hA := fun b c b' c' => r17_All ar base b b' c c' E S h.1
        have hB := fun b c b' c' => r17_All ar base' b b' c c' E S' h.2
        obtain ⟨p1, p2, p3⟩ := places_ends h.1 h0
        obtain ⟨q1, q2, q3⟩ := places_ends h.2 h0
        have hp := placesR_le base E S
        have lp := placesR_length h.1
        have lq := placesR_length h.2
        have hq : rangeQ base E S base' S' = decide (base + lows E S ≤ base' + highs E S' ∧ base' + lows E S' ≤ base + highs E S) := by
          unfold rangeQ; rw [decide_eq_decide]; simp [h, h0]
        rw [hq]
        generalize placesR base E S = p at *
        generalize placesR base' E S' = q at *
        generalize base + lows E S = m1 at *
        generalize base + highs E S = m2 at *
        generalize base' + lows E S' = m3 at *
        generalize base' + highs E S' = m4 at *
        obtain ⟨x, hx⟩ : ∃ x, p[0]? = some x := by
          cases p with
          | nil => simp at p2
          | cons x l => exact ⟨x, rfl⟩
        obtain ⟨y, hy⟩ : ∃ x, q[0]? = some x := by
          cases q with
          | nil => simp at q2
          | cons x l => exact ⟨x, rfl⟩
        have x1 := p1 x (List.mem_of_getElem? hx)
        have y1 := q1 y (List.mem_of_getElem? hy)
        have hl := rl_Range8 p q (by omega) hp none none p 0 x x y y rfl
        rw [List.drop_zero, fold_mn p x (fun z hz => (p1 z hz).1) x1.1 (.inl p2), fold_mx p x (fun z hz => (p1 z hz).2) x1.2 (.inl p3), fold_mn q y (fun z hz => (q1 z hz).1) y1.1 (.inl q2), fold_mx q y (fun z hz => (q1 z hz).2) y1.2 (.inl q3)] at hl
        simp only [cast1, List.length_append, List.length_cons, List.length_nil, Nat.zero_add, Nat.add_zero, Int.natCast_zero, Int.natCast_add, Int.zero_add, ints_1, ints_0, ] at hl
        have n1 : (0 : Int) < p.length := by have := (List.getElem?_eq_some_iff.1 hx).1; omega
        have n2 : (0 : Int) < q.length := by have := (List.getElem?_eq_some_iff.1 hy).1; omega
        have n3 : 0 < p.length := by omega
        have n4 : 0 < q.length := by omega
        by_cases k1 : m1 ≤ m4
        · simp (config := { maxSteps := 1000000 }) (disch := omega) only [push_cast, ↓reduceIte, Nat.reduceEqDiff, Nat.reduceAdd, Nat.reduceLT, Nat.reduceLeDiff, Nat.reduceBEq, Nat.reduceMul, Nat.reduceSub, Int.reduceToNat, Int.reduceEq, Int.reduceLT, Int.reduceLE, Int.reduceNeg, Int.reduceAdd, Int.reduceSub, Int.reduceMul, Try.f33, kr33, kp33_8, ow33_8, ty3, ty4, ty22, ty24, ty29, tb4, ha, h, hT, hm, h0, hA, hB, ne_eq, getD_of hx, getD_of hy, n1, n2, n3, n4, hl, k1]
        · simp (config := { maxSteps := 1000000 }) (disch := omega) only [push_cast, ↓reduceIte, Nat.reduceEqDiff, Nat.reduceAdd, Nat.reduceLT, Nat.reduceLeDiff, Nat.reduceBEq, Nat.reduceMul, Nat.reduceSub, Int.reduceToNat, Int.reduceEq, Int.reduceLT, Int.reduceLE, Int.reduceNeg, Int.reduceAdd, Int.reduceSub, Int.reduceMul, Try.f33, kr33, kp33_8, ow33_8, ty3, ty4, ty22, ty24, ty29, tb4, ha, h, hT, hm, h0, hA, hB, ne_eq, getD_of hx, getD_of hy, n1, n2, n3, n4, hl, k1]
    · simp (config := { maxSteps := 1000000 }) (disch := omega) only [push_cast, ↓reduceIte, Nat.reduceEqDiff, Nat.reduceAdd, Nat.reduceLT, Nat.reduceLeDiff, Nat.reduceBEq, Nat.reduceMul, Nat.reduceSub, Int.reduceToNat, Int.reduceEq, Int.reduceLT, Int.reduceLE, Int.reduceNeg, Int.reduceAdd, Int.reduceSub, Int.reduceMul, Try.f33, kr33, kp33_8, ow33_8, ty3, ty4, ty22, ty24, ty29, tb4, ha, h, hT, e1, ne_eq]
  · have hq : rangeQ base E S base' S' = false := decide_eq_false fun q => h ⟨q.1.1, q.1.2.1⟩
    simp (config := { maxSteps := 1000000 }) (disch := omega) only [push_cast, ↓reduceIte, Nat.reduceEqDiff, Nat.reduceAdd, Nat.reduceLT, Nat.reduceLeDiff, Nat.reduceBEq, Nat.reduceMul, Nat.reduceSub, Int.reduceToNat, Int.reduceEq, Int.reduceLT, Int.reduceLE, Int.reduceNeg, Int.reduceAdd, Int.reduceSub, Int.reduceMul, Try.f33, kr33, kp33_8, ow33_8, ty3, ty4, ty22, ty24, ty29, tb4, ha, h, hq]
end
end Go.Proofs.Ytancjhajhdhfbaa.Tev
