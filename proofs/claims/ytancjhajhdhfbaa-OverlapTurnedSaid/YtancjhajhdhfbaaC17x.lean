/- The document's Meetings, Pairs, Meet and Way. -/
import Derived.Test.YtancjhajhdhfbaaC17p
import Derived.Test.YtancjhajhdhfbaaC17v
import Derived.Test.YtancjhajhdhfbaaC17u
namespace Go.Proofs.Ytancjhajhdhfbaa.Tev
open Go Go.RowKit Go.Proofs Go.Proofs.Ytancjhajhdhfbaa.Q
set_option linter.unusedSectionVars false
set_option maxRecDepth 100000
set_option maxHeartbeats 0
set_option linter.unusedSimpArgs false
set_option linter.unusedVariables false
section
variable (p q : List Int) (hp : p.length ≤ 400) (hq : q.length ≤ 400) (c1 c2 : Option Nat)
include hp hq
theorem rl_Meet9 (i : Nat) (x : Int) (hi : p[i]? = some x) : ∀ (r : List Int) (k : Nat) (L : List PairI) (c : Option Nat), q.drop k = r → L.length + r.length ≤ 200000 →
    ∃ c', lp E0 pr0 37 9 ⟨[(7, .sl 0 0 L.length 2 c), (8, .sl 1 0 p.length 1 c1), (9, .sl 2 0 q.length 1 c2), (10, I i), (11, I k)], [(0, .arr (pairCs L) 0 1), (1, .arr (ints p) 1 1), (2, .arr (ints q) 2 1)], 3⟩ =
      some (.exit 2, ⟨[(7, .sl 0 0 (L ++ (hitsI r x k).map fun k => ((i : Int), k)).length 2 c'), (8, .sl 1 0 p.length 1 c1), (9, .sl 2 0 q.length 1 c2), (10, I i)], [(0, .arr (pairCs (L ++ (hitsI r x k).map fun k => ((i : Int), k))) 0 1), (1, .arr (ints p) 1 1), (2, .arr (ints q) 2 1)], 3⟩) := by
  have hil : i < p.length := by rcases Nat.lt_or_ge i p.length with h' | h'; exact h'; simp [h'] at hi
  have hil' : (i : Int) < p.length := by omega
  intro r
  induction r with
  | nil =>
    intro k L c h1 h2
    have h5 := drop_nil h1
    have h6 : ¬ (k : Int) < q.length := by omega
    refine ⟨c, ?_⟩
    rw [lp_eq lp37_9]
    simp (config := { maxSteps := 1000000 }) (disch := omega) only [push_cast, ↓reduceIte, Nat.reduceEqDiff, Nat.reduceAdd, Nat.reduceLT, Nat.reduceLeDiff, Nat.reduceBEq, Nat.reduceMul, Nat.reduceSub, Int.reduceToNat, Int.reduceEq, Int.reduceLT, Int.reduceLE, Int.reduceNeg, Int.reduceAdd, Int.reduceSub, Int.reduceMul, Try.f37, kr37, kp37_9, kp37_6, ow37_9, ow37_6, ty3, ty22, ty24, ty28, ty49, h6, hitsI, List.map_nil, List.append_nil]
  | cons y r ih =>
    intro k L c h1 h2
    obtain ⟨g1, g2, g3⟩ := drop_cons h1
    have g8 : (k : Int) < q.length := by omega
    simp only [List.length_cons] at h2
    have hl := pairCs_len L
    by_cases e : x = y
    · obtain ⟨c', ih'⟩ := ih (k + 1) (L ++ [((i : Int), (k : Int))]) none g3 (by simp; omega)
      rw [List.append_assoc, show [((i : Int), (k : Int))] ++ (hitsI r x (k + 1)).map (fun k => ((i : Int), k)) = (hitsI (y :: r) x k).map fun k => ((i : Int), k) by rw [hitsI, if_pos e]; rfl] at ih'
      simp only [cast1, List.length_append, List.length_cons, List.length_nil, Nat.zero_add, Nat.add_zero, Int.natCast_zero, Int.natCast_add, Int.zero_add, ints_1, ints_0, ] at ih'
      refine ⟨c', ?_⟩
      rw [lp_eq lp37_9]
      simp (config := { maxSteps := 1000000 }) (disch := omega) only [push_cast, ↓reduceIte, Nat.reduceEqDiff, Nat.reduceAdd, Nat.reduceLT, Nat.reduceLeDiff, Nat.reduceBEq, Nat.reduceMul, Nat.reduceSub, Int.reduceToNat, Int.reduceEq, Int.reduceLT, Int.reduceLE, Int.reduceNeg, Int.reduceAdd, Int.reduceSub, Int.reduceMul, Try.f37, kr37, kp37_9, kp37_6, ow37_9, ow37_6, ty3, ty22, ty24, ty28, ty49, g1, g8, getD_of g2, hil, hil', getD_of hi, e, hl, pairCs_snoc, ih']
    · obtain ⟨c', ih'⟩ := ih (k + 1) L c g3 (by omega)
      rw [show hitsI r x (k + 1) = hitsI (y :: r) x k by rw [hitsI, if_neg e]] at ih'
      simp only [cast1, List.length_append, List.length_cons, List.length_nil, Nat.zero_add, Nat.add_zero, Int.natCast_zero, Int.natCast_add, Int.zero_add, ints_1, ints_0, ] at ih'
      refine ⟨c', ?_⟩
      rw [lp_eq lp37_9]
      simp (config := { maxSteps := 1000000 }) (disch := omega) only [push_cast, ↓reduceIte, Nat.reduceEqDiff, Nat.reduceAdd, Nat.reduceLT, Nat.reduceLeDiff, Nat.reduceBEq, Nat.reduceMul, Nat.reduceSub, Int.reduceToNat, Int.reduceEq, Int.reduceLT, Int.reduceLE, Int.reduceNeg, Int.reduceAdd, Int.reduceSub, Int.reduceMul, Try.f37, kr37, kp37_9, kp37_6, ow37_9, ow37_6, ty3, ty22, ty24, ty28, ty49, g1, g8, getD_of g2, hil, hil', getD_of hi, e, hl, ih']
theorem rl_Meet6 : ∀ (r : List Int) (i : Nat) (L : List PairI) (c : Option Nat), p.drop i = r → L.length + r.length * 400 ≤ 160000 →
    ∃ c', lp E0 pr0 37 6 ⟨[(7, .sl 0 0 L.length 2 c), (8, .sl 1 0 p.length 1 c1), (9, .sl 2 0 q.length 1 c2), (10, I i)], [(0, .arr (pairCs L) 0 1), (1, .arr (ints p) 1 1), (2, .arr (ints q) 2 1)], 3⟩ =
      some (.exit 0, ⟨[(7, .sl 0 0 (L ++ pairsFI q r i).length 2 c')], [(0, .arr (pairCs (L ++ pairsFI q r i)) 0 1)], 1⟩) := by
  intro r
  induction r with
  | nil =>
    intro i L c h1 h2
    have h5 := drop_nil h1
    have h6 : ¬ (i : Int) < p.length := by omega
    refine ⟨c, ?_⟩
    rw [lp_eq lp37_6]
    simp (config := { maxSteps := 1000000 }) (disch := omega) only [push_cast, ↓reduceIte, Nat.reduceEqDiff, Nat.reduceAdd, Nat.reduceLT, Nat.reduceLeDiff, Nat.reduceBEq, Nat.reduceMul, Nat.reduceSub, Int.reduceToNat, Int.reduceEq, Int.reduceLT, Int.reduceLE, Int.reduceNeg, Int.reduceAdd, Int.reduceSub, Int.reduceMul, Try.f37, kr37, kp37_9, kp37_6, ow37_9, ow37_6, ty3, ty22, ty24, ty28, ty49, h6, pairsFI, List.append_nil]
  | cons x r ih =>
    intro i L c h1 h2
    obtain ⟨g1, g2, g3⟩ := drop_cons h1
    have g8 : (i : Int) < p.length := by omega
    simp only [List.length_cons] at h2
    have hh : (hitsI q x 0).length ≤ 400 := by rw [hitsI_eq]; have := hits_len q x 0; simp; omega
    obtain ⟨c', h9⟩ := rl_Meet9 p q hp hq c1 c2 i x g2 q 0 L c rfl (by omega)
    obtain ⟨c'', ih'⟩ := ih (i + 1) (L ++ (hitsI q x 0).map fun k => ((i : Int), k)) c' g3 (by simp; omega)
    rw [List.append_assoc, show (hitsI q x 0).map (fun k => ((i : Int), k)) ++ pairsFI q r (i + 1) = pairsFI q (x :: r) i from rfl] at ih'
    simp only [cast1, List.length_append, List.length_cons, List.length_nil, Nat.zero_add, Nat.add_zero, Int.natCast_zero, Int.natCast_add, Int.zero_add, ints_1, ints_0, ] at ih' h9
    refine ⟨c'', ?_⟩
    rw [lp_eq lp37_6]
    simp (config := { maxSteps := 1000000 }) (disch := omega) only [push_cast, ↓reduceIte, Nat.reduceEqDiff, Nat.reduceAdd, Nat.reduceLT, Nat.reduceLeDiff, Nat.reduceBEq, Nat.reduceMul, Nat.reduceSub, Int.reduceToNat, Int.reduceEq, Int.reduceLT, Int.reduceLE, Int.reduceNeg, Int.reduceAdd, Int.reduceSub, Int.reduceMul, Try.f37, kr37, kp37_9, kp37_6, ow37_9, ow37_6, ty3, ty22, ty24, ty28, ty49, g1, g8, h9, ih']
end
section
variable (ar a : Int) (b1 b2 b3 : Bool) (c1 c2 c3 : Option Nat) (E S : List Int) (ar' b : Int) (S' : List Int)
theorem r17_Meetings (h1 : okR a E S) (h2 : okR b E S') : CALL 37 [SL b1 c1 E.length (ints E), Rf ar a b2 c2 S, Rf ar' b b3 c3 S'] = some (.sl 0 0 (meetL ar a E S ar' b S').length 2 none, [pairCs (meetL ar a E S ar' b S')]) := by
  refine lim_run (fn := Try.f37) fn37 rfl body37 (Nat.le_of_ble_eq_true rfl) ok37 ?_
  by_cases e : ar = ar'
  · subst e
    have hA := fun b0 c b' c' => r17_All ar a b0 b' c c' E S h1
    have hB := fun b0 c b' c' => r17_All ar b b0 b' c c' E S' h2
    have hp := placesR_le a E S
    have hq := placesR_le b E S'
    obtain ⟨c', h6⟩ := rl_Meet6 (placesR a E S) (placesR b E S') hp hq none none (placesR a E S) 0 [] none rfl (by simp; omega)
    rw [List.nil_append, show pairsFI (placesR b E S') (placesR a E S) 0 = meetL ar a E S ar b S' by unfold meetL; rw [if_pos ⟨⟨h1, h2⟩, rfl⟩]; exact pairsFI_eq _ _ 0] at h6
    simp only [cast1, List.length_append, List.length_cons, List.length_nil, Nat.zero_add, Nat.add_zero, Int.natCast_zero, Int.natCast_add, Int.zero_add, ints_1, ints_0, pairCs_nil] at h6
    have hr : rowAt (pairCs (meetL ar a E S ar b S')) 0 ((meetL ar a E S ar b S').length * 2) = pairCs (meetL ar a E S ar b S') := rowAt_all _ _ (pairCs_len _).symm
    simp (config := { maxSteps := 1000000 }) (disch := omega) only [push_cast, ↓reduceIte, Nat.reduceEqDiff, Nat.reduceAdd, Nat.reduceLT, Nat.reduceLeDiff, Nat.reduceBEq, Nat.reduceMul, Nat.reduceSub, Int.reduceToNat, Int.reduceEq, Int.reduceLT, Int.reduceLE, Int.reduceNeg, Int.reduceAdd, Int.reduceSub, Int.reduceMul, Try.f37, kr37, kp37_9, kp37_6, ow37_9, ow37_6, ty3, ty22, ty24, ty28, ty49, hA, hB, h6, hr, ne_eq]
  · have hm : meetL ar a E S ar' b S' = [] := by unfold meetL; rw [if_neg fun q => e q.2]
    rw [hm]
    simp (config := { maxSteps := 1000000 }) (disch := omega) only [push_cast, ↓reduceIte, Nat.reduceEqDiff, Nat.reduceAdd, Nat.reduceLT, Nat.reduceLeDiff, Nat.reduceBEq, Nat.reduceMul, Nat.reduceSub, Int.reduceToNat, Int.reduceEq, Int.reduceLT, Int.reduceLE, Int.reduceNeg, Int.reduceAdd, Int.reduceSub, Int.reduceMul, Try.f37, kr37, kp37_9, kp37_6, ow37_9, ow37_6, ty3, ty22, ty24, ty28, ty49, e, ne_eq, pairCs_nil]
theorem r17_Pairs : CALL 13 [SL b1 c1 E.length (ints E), Rf ar a b2 c2 S, Rf ar' b b3 c3 S'] = some (pairsRes (meetL ar a E S ar' b S') (errRR a E S b S')) := by
  have ha := fun b1 c1 b2 c2 b3 c3 => r17_asked ar a b1 b2 c1 c2 E S ar' b b3 c3 S'
  unfold errRR pairsRes
  refine lim_run (fn := Try.f13) fn13 rfl body13 (Nat.le_of_ble_eq_true rfl) ok13 ?_
  by_cases h : okR a E S ∧ okR b E S'
  · have hm := fun b1 b2 b3 c1 c2 c3 => r17_Meetings ar a b1 b2 b3 c1 c2 c3 E S ar' b S' h.1 h.2
    have hr : rowAt (pairCs (meetL ar a E S ar' b S')) 0 ((meetL ar a E S ar' b S').length * 2) = pairCs (meetL ar a E S ar' b S') := rowAt_all _ _ (pairCs_len _).symm
    simp (config := { maxSteps := 1000000 }) (disch := omega) only [push_cast, ↓reduceIte, Nat.reduceEqDiff, Nat.reduceAdd, Nat.reduceLT, Nat.reduceLeDiff, Nat.reduceBEq, Nat.reduceMul, Nat.reduceSub, Int.reduceToNat, Int.reduceEq, Int.reduceLT, Int.reduceLE, Int.reduceNeg, Int.reduceAdd, Int.reduceSub, Int.reduceMul, Try.f13, kr13, ty3, ty22, ty24, ty28, ty29, ty49, ha, h, hm, hr]
  · have hm : meetL ar a E S ar' b S' = [] := by unfold meetL; rw [if_neg fun q => h q.1]
    rw [hm]
    simp (config := { maxSteps := 1000000 }) (disch := omega) only [push_cast, ↓reduceIte, Nat.reduceEqDiff, Nat.reduceAdd, Nat.reduceLT, Nat.reduceLeDiff, Nat.reduceBEq, Nat.reduceMul, Nat.reduceSub, Int.reduceToNat, Int.reduceEq, Int.reduceLT, Int.reduceLE, Int.reduceNeg, Int.reduceAdd, Int.reduceSub, Int.reduceMul, Try.f13, kr13, ty3, ty22, ty24, ty28, ty29, ty49, ha, h, pairCs_nil]
theorem r17_Meet : CALL 20 [SL b1 c1 E.length (ints E), Rf ar a b2 c2 S, Rf ar' b b3 c3 S'] = some (.tup [B (decide (0 < (meetL ar a E S ar' b S').length)), I (errRR a E S b S')], []) := by
  have hp := fun b1 b2 b3 c1 c2 c3 => r17_Pairs ar a b1 b2 b3 c1 c2 c3 E S ar' b S'
  unfold pairsRes at hp
  have hd : decide ((0 : Int) < (meetL ar a E S ar' b S').length) = decide (0 < (meetL ar a E S ar' b S').length) := by rw [decide_eq_decide]; omega
  refine lim_run (fn := Try.f20) fn20 rfl body20 (Nat.le_of_ble_eq_true rfl) ok20 ?_
  simp (config := { maxSteps := 1000000 }) (disch := omega) only [push_cast, ↓reduceIte, Nat.reduceEqDiff, Nat.reduceAdd, Nat.reduceLT, Nat.reduceLeDiff, Nat.reduceBEq, Nat.reduceMul, Nat.reduceSub, Int.reduceToNat, Int.reduceEq, Int.reduceLT, Int.reduceLE, Int.reduceNeg, Int.reduceAdd, Int.reduceSub, Int.reduceMul, Try.f20, kr20, ty3, ty4, ty22, ty24, ty28, ty29, ty49, tb4, hp, hd]
end
def onL (L : List PairI) : Bool := L.any fun z => decide (z.1 < z.2)
def backL (L : List PairI) : Bool := L.any fun z => decide (z.2 < z.1)
theorem wayC_flags (L : List PairI) : wayC (apartL L) = if L = [] then 0 else if onL L = true ∧ backL L = true then 4 else if onL L = true then 2 else if backL L = true then 3 else 1 := by
  have e0 : apartL L = [] ↔ L = [] := by unfold apartL; exact List.map_eq_nil_iff
  have e1 : (∃ d ∈ apartL L, 0 < d) ↔ onL L = true := by
    unfold apartL onL
    rw [List.any_eq_true]
    constructor
    · rintro ⟨d, hd, h⟩
      obtain ⟨z, hz, rfl⟩ := List.mem_map.1 hd
      exact ⟨z, hz, decide_eq_true (by omega)⟩
    · rintro ⟨z, hz, h⟩
      exact ⟨_, List.mem_map.2 ⟨z, hz, rfl⟩, by have := of_decide_eq_true h; omega⟩
  have e2 : (∃ d ∈ apartL L, d < 0) ↔ backL L = true := by
    unfold apartL backL
    rw [List.any_eq_true]
    constructor
    · rintro ⟨d, hd, h⟩
      obtain ⟨z, hz, rfl⟩ := List.mem_map.1 hd
      exact ⟨z, hz, decide_eq_true (by omega)⟩
    · rintro ⟨z, hz, h⟩
      exact ⟨_, List.mem_map.2 ⟨z, hz, rfl⟩, by have := of_decide_eq_true h; omega⟩
  unfold wayC
  simp only [e0, e1, e2]
theorem rl_Way6 (L : List PairI) (hL : L.length ≤ 160000) (c : Option Nat) : ∀ (r : List PairI) (i : Nat) (u v : Bool), L.drop i = r →
    lp E0 pr0 21 6 ⟨[(8, .sl 0 0 L.length 2 c), (10, B u), (11, B v), (12, I i)], [(0, .arr (pairCs L) 0 1)], 1⟩ =
      some (.exit 0, ⟨[(8, .sl 0 0 L.length 2 c), (10, B (u || onL r)), (11, B (v || backL r))], [(0, .arr (pairCs L) 0 1)], 1⟩) := by
  intro r
  induction r with
  | nil =>
    intro i u v h1
    have h5 := drop_nil h1
    have h6 : ¬ (i : Int) < L.length := by omega
    rw [lp_eq lp21_6]
    simp (config := { maxSteps := 1000000 }) (disch := omega) only [push_cast, ↓reduceIte, Nat.reduceEqDiff, Nat.reduceAdd, Nat.reduceLT, Nat.reduceLeDiff, Nat.reduceBEq, Nat.reduceMul, Nat.reduceSub, Int.reduceToNat, Int.reduceEq, Int.reduceLT, Int.reduceLE, Int.reduceNeg, Int.reduceAdd, Int.reduceSub, Int.reduceMul, Try.f21, kr21, kp21_6, ow21_6, ty3, ty9, ty22, ty24, ty28, ty29, ty49, h6, onL, backL, List.any_nil]
  | cons z r ih =>
    intro i u v h1
    obtain ⟨g1, g2, g3⟩ := drop_cons h1
    have g8 : (i : Int) < L.length := by omega
    obtain ⟨hat, hat2⟩ := pairCs_at L i z g2
    have ih' := ih (i + 1) (u || decide (z.1 < z.2)) (v || decide (z.2 < z.1)) g3
    rw [Bool.or_assoc, show (decide (z.1 < z.2) || onL r) = onL (z :: r) from rfl, Bool.or_assoc, show (decide (z.2 < z.1) || backL r) = backL (z :: r) from rfl] at ih'
    simp only [cast1, List.length_append, List.length_cons, List.length_nil, Nat.zero_add, Nat.add_zero, Int.natCast_zero, Int.natCast_add, Int.zero_add, ints_1, ints_0, ] at ih'
    rw [lp_eq lp21_6]
    cases u <;> cases v <;> simp only [Bool.true_or, Bool.false_or] at ih' ⊢ <;> simp (config := { maxSteps := 1000000 }) (disch := omega) only [push_cast, ↓reduceIte, Nat.reduceEqDiff, Nat.reduceAdd, Nat.reduceLT, Nat.reduceLeDiff, Nat.reduceBEq, Nat.reduceMul, Nat.reduceSub, Int.reduceToNat, Int.reduceEq, Int.reduceLT, Int.reduceLE, Int.reduceNeg, Int.reduceAdd, Int.reduceSub, Int.reduceMul, Try.f21, kr21, kp21_6, ow21_6, ty3, ty9, ty22, ty24, ty28, ty29, ty49, g1, g8, hat, hat2, ih']
section
variable (ar a : Int) (b1 b2 b3 : Bool) (c1 c2 c3 : Option Nat) (E S : List Int) (ar' b : Int) (S' : List Int)
theorem r17_Way : CALL 21 [SL b1 c1 E.length (ints E), Rf ar a b2 c2 S, Rf ar' b b3 c3 S'] = some (.tup [.c (.v (.string (wayQ ar a E S ar' b S'))), I (errRR a E S b S')], []) := by
  have hp := fun b1 b2 b3 c1 c2 c3 => r17_Pairs ar a b1 b2 b3 c1 c2 c3 E S ar' b S'
  unfold pairsRes at hp
  have hw : wayC (distL ar a E S ar' b S') = wayC (apartL (meetL ar a E S ar' b S')) := wayC_ext (setQ_mem _)
  have hl := meetL_len ar a E S ar' b S'
  unfold wayQ
  rw [hw, wayC_flags]
  refine lim_run (fn := Try.f21) fn21 rfl body21 (Nat.le_of_ble_eq_true rfl) ok21 ?_
  rcases errRR_or a E S b S' with he | he
  · rw [he] at hp ⊢
    rw [if_pos rfl]
    generalize meetL ar a E S ar' b S' = L at *
    have h6 := rl_Way6 L hl none L 0 false false rfl
    simp only [Bool.false_or] at h6
    simp only [cast1, List.length_append, List.length_cons, List.length_nil, Nat.zero_add, Nat.add_zero, Int.natCast_zero, Int.natCast_add, Int.zero_add, ints_1, ints_0, ] at h6
    have w0 : wayS 0 = ⟨#[110, 111, 110, 101]⟩ := rfl
    have w1 : wayS 1 = ⟨#[115, 97, 109, 101]⟩ := rfl
    have w2 : wayS 2 = ⟨#[111, 110]⟩ := rfl
    have w3 : wayS 3 = ⟨#[98, 97, 99, 107]⟩ := rfl
    have w4 : wayS 4 = ⟨#[98, 111, 116, 104]⟩ := rfl
    by_cases h0 : L = []
    · subst h0
      simp only [List.length_nil, pairCs_nil, Int.natCast_zero] at hp h6
      rw [if_pos rfl, w0]
      simp (config := { maxSteps := 1000000 }) (disch := omega) only [push_cast, ↓reduceIte, Nat.reduceEqDiff, Nat.reduceAdd, Nat.reduceLT, Nat.reduceLeDiff, Nat.reduceBEq, Nat.reduceMul, Nat.reduceSub, Int.reduceToNat, Int.reduceEq, Int.reduceLT, Int.reduceLE, Int.reduceNeg, Int.reduceAdd, Int.reduceSub, Int.reduceMul, Try.f21, kr21, kp21_6, ow21_6, ty3, ty9, ty22, ty24, ty28, ty29, ty49, hp, ne_eq, h6]
    · have hn : ¬ (L.length : Int) = 0 := by
        have := List.length_pos_iff.2 h0; omega
      rw [if_neg h0]
      cases hu : onL L <;> cases hv : backL L <;> rw [hu, hv] at h6
      · rw [if_neg (by simp), if_neg (by simp), if_neg (by simp), w1]
        simp (config := { maxSteps := 1000000 }) (disch := omega) only [push_cast, ↓reduceIte, Nat.reduceEqDiff, Nat.reduceAdd, Nat.reduceLT, Nat.reduceLeDiff, Nat.reduceBEq, Nat.reduceMul, Nat.reduceSub, Int.reduceToNat, Int.reduceEq, Int.reduceLT, Int.reduceLE, Int.reduceNeg, Int.reduceAdd, Int.reduceSub, Int.reduceMul, Try.f21, kr21, kp21_6, ow21_6, ty3, ty9, ty22, ty24, ty28, ty29, ty49, hp, ne_eq, h6, hn]
      · rw [if_neg (by simp), if_neg (by simp), if_pos rfl, w3]
        simp (config := { maxSteps := 1000000 }) (disch := omega) only [push_cast, ↓reduceIte, Nat.reduceEqDiff, Nat.reduceAdd, Nat.reduceLT, Nat.reduceLeDiff, Nat.reduceBEq, Nat.reduceMul, Nat.reduceSub, Int.reduceToNat, Int.reduceEq, Int.reduceLT, Int.reduceLE, Int.reduceNeg, Int.reduceAdd, Int.reduceSub, Int.reduceMul, Try.f21, kr21, kp21_6, ow21_6, ty3, ty9, ty22, ty24, ty28, ty29, ty49, hp, ne_eq, h6, hn]
      · rw [if_neg (by simp), if_pos rfl, w2]
        simp (config := { maxSteps := 1000000 }) (disch := omega) only [push_cast, ↓reduceIte, Nat.reduceEqDiff, Nat.reduceAdd, Nat.reduceLT, Nat.reduceLeDiff, Nat.reduceBEq, Nat.reduceMul, Nat.reduceSub, Int.reduceToNat, Int.reduceEq, Int.reduceLT, Int.reduceLE, Int.reduceNeg, Int.reduceAdd, Int.reduceSub, Int.reduceMul, Try.f21, kr21, kp21_6, ow21_6, ty3, ty9, ty22, ty24, ty28, ty29, ty49, hp, ne_eq, h6, hn]
      · rw [if_pos ⟨rfl, rfl⟩, w4]
        simp (config := { maxSteps := 1000000 }) (disch := omega) only [push_cast, ↓reduceIte, Nat.reduceEqDiff, Nat.reduceAdd, Nat.reduceLT, Nat.reduceLeDiff, Nat.reduceBEq, Nat.reduceMul, Nat.reduceSub, Int.reduceToNat, Int.reduceEq, Int.reduceLT, Int.reduceLE, Int.reduceNeg, Int.reduceAdd, Int.reduceSub, Int.reduceMul, Try.f21, kr21, kp21_6, ow21_6, ty3, ty9, ty22, ty24, ty28, ty29, ty49, hp, ne_eq, h6, hn]
  · rw [he] at hp ⊢
    simp (config := { maxSteps := 1000000 }) (disch := omega) only [push_cast, ↓reduceIte, Nat.reduceEqDiff, Nat.reduceAdd, Nat.reduceLT, Nat.reduceLeDiff, Nat.reduceBEq, Nat.reduceMul, Nat.reduceSub, Int.reduceToNat, Int.reduceEq, Int.reduceLT, Int.reduceLE, Int.reduceNeg, Int.reduceAdd, Int.reduceSub, Int.reduceMul, Try.f21, kr21, kp21_6, ow21_6, ty3, ty9, ty22, ty24, ty28, ty29, ty49, hp, ne_eq]
end
end Go.Proofs.Ytancjhajhdhfbaa.Tev
