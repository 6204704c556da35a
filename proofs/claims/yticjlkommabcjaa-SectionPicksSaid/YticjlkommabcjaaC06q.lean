/- section.Pick whole; the document's Pick; the document's Twice. -/
import Derived.Test.YticjlkommabcjaaC06p
namespace Go.Proofs.Yticjlkommabcjaa.Tev
open Go Go.RowKit Go.Proofs Go.Proofs.Yticjlkommabcjaa.Q
set_option linter.unusedSectionVars false
set_option maxRecDepth 100000
set_option maxHeartbeats 0
set_option linter.unusedSimpArgs false
set_option linter.unusedVariables false
section
variable (base : Int) (b1 b2 q : Bool) (c1 c2 c : Option Nat) (E S : List Int) (L : List (List Int))
theorem c_Pick (hE : (E.length : Int) ≤ 9223372036854775806) (hS : (S.length : Int) ≤ 9223372036854775806) (hL : L.length ≤ 10) (h6 : ∀ l ∈ L, l.length ≤ 6000) :
    CALL 39 [Dsc base b1 c1 E b2 c2 S, LT q c L] = some (.tup [.sl 0 0 (pickQ base E S L).length 1 none, I (errPk base E S L)], [ints (pickQ base E S L)]) := by
  have hv := c_Valid base b1 b2 c1 c2 E S hE hS
  unfold pickQ errPk
  refine lim_run (fn := Try.f39) fn39 rfl body39 (Nat.le_of_ble_eq_true rfl) ok39 ?_
  by_cases hd : okD base E S
  · by_cases hn : (L.length : Int) = E.length
    · have hn' : L.length = E.length := by omega
      have hnt := eq_true hn
      have hnt' := eq_true hn'
      have hs : S.length = L.length := by rw [hd.2.2.1, hn']
      have hl := l_Pick5 base b1 b2 q c1 c2 c E S L hL h6 hn'.symm L E 0 rfl rfl
      obtain ⟨cp', hl2⟩ := l_Pick11 base b1 b2 q c1 c2 c E S L hL h6 hs L S 0 [base] (some 1) rfl rfl (by simp)
      simp only [cast1, List.length_append, List.length_cons, List.length_nil, Nat.zero_add, Nat.add_zero, Int.natCast_zero, Int.natCast_add, Int.zero_add, ints_1, ints_0, ] at hl hl2
      cases hb : badL L E with
      | true =>
        rw [hb] at hl
        simp (config := { maxSteps := 1000000 }) (disch := omega) only [push_cast, ↓reduceIte, Nat.reduceEqDiff, Nat.reduceAdd, Nat.reduceLT, Nat.reduceLeDiff, Nat.reduceBEq, Nat.reduceMul, Nat.reduceSub, Int.reduceToNat, Int.reduceEq, Int.reduceLT, Int.reduceLE, Int.reduceNeg, Int.reduceAdd, Int.reduceSub, Int.reduceMul, Try.f39, kr39, kp39_20, kp39_17, kp39_11, kp39_5, ow39_20, ow39_17, ow39_11, ow39_5, ty3, ty24, ty29, ty31, ty51, hv, hd, hnt, hnt', hl, hb, ne_eq]
      | false =>
        rw [hb] at hl
        cases hp : pickW L S [base] with
        | none =>
          rw [hp] at hl2
          simp (config := { maxSteps := 1000000 }) (disch := omega) only [push_cast, ↓reduceIte, Nat.reduceEqDiff, Nat.reduceAdd, Nat.reduceLT, Nat.reduceLeDiff, Nat.reduceBEq, Nat.reduceMul, Nat.reduceSub, Int.reduceToNat, Int.reduceEq, Int.reduceLT, Int.reduceLE, Int.reduceNeg, Int.reduceAdd, Int.reduceSub, Int.reduceMul, Try.f39, kr39, kp39_20, kp39_17, kp39_11, kp39_5, ow39_20, ow39_17, ow39_11, ow39_5, ty3, ty24, ty29, ty31, ty51, hv, hd, hnt, hnt', hl, hb, hl2, hp, ne_eq, reduceCtorEq]
        | some o =>
          rw [hp] at hl2
          simp (config := { maxSteps := 1000000 }) (disch := omega) only [push_cast, ↓reduceIte, Nat.reduceEqDiff, Nat.reduceAdd, Nat.reduceLT, Nat.reduceLeDiff, Nat.reduceBEq, Nat.reduceMul, Nat.reduceSub, Int.reduceToNat, Int.reduceEq, Int.reduceLT, Int.reduceLE, Int.reduceNeg, Int.reduceAdd, Int.reduceSub, Int.reduceMul, Try.f39, kr39, kp39_20, kp39_17, kp39_11, kp39_5, ow39_20, ow39_17, ow39_11, ow39_5, ty3, ty24, ty29, ty31, ty51, hv, hd, hnt, hnt', hl, hb, hl2, hp, ne_eq, reduceCtorEq]
    · have hn' : ¬ L.length = E.length := by omega
      simp (config := { maxSteps := 1000000 }) (disch := omega) only [push_cast, ↓reduceIte, Nat.reduceEqDiff, Nat.reduceAdd, Nat.reduceLT, Nat.reduceLeDiff, Nat.reduceBEq, Nat.reduceMul, Nat.reduceSub, Int.reduceToNat, Int.reduceEq, Int.reduceLT, Int.reduceLE, Int.reduceNeg, Int.reduceAdd, Int.reduceSub, Int.reduceMul, Try.f39, kr39, kp39_20, kp39_17, kp39_11, kp39_5, ow39_20, ow39_17, ow39_11, ow39_5, ty3, ty24, ty29, ty31, ty51, hv, hd, hn, hn', ne_eq]
  · simp (config := { maxSteps := 1000000 }) (disch := omega) only [push_cast, ↓reduceIte, Nat.reduceEqDiff, Nat.reduceAdd, Nat.reduceLT, Nat.reduceLeDiff, Nat.reduceBEq, Nat.reduceMul, Nat.reduceSub, Int.reduceToNat, Int.reduceEq, Int.reduceLT, Int.reduceLE, Int.reduceNeg, Int.reduceAdd, Int.reduceSub, Int.reduceMul, Try.f39, kr39, kp39_20, kp39_17, kp39_11, kp39_5, ow39_20, ow39_17, ow39_11, ow39_5, ty3, ty24, ty29, ty31, ty51, hv, hd, ne_eq]
theorem rl_Pick7 (i : Nat) (l : List Int) (hi : L[i]? = some l) (e : Int) (he : E[i]? = some e) (hL : L.length ≤ 10) (hl : l.length ≤ 6000) : ∀ (r : List Int) (j : Nat), l.drop j = r →
    lp E0 pr0 40 7 ⟨[(1, LT q c L), (2, .pt 0 0), (6, I i), (7, I j)], [(0, .box [I base, SL b1 c1 E.length (ints E), SL b2 c2 S.length (ints S)])], 1⟩ =
      if (r.any fun x => decide (x < 0 ∨ e ≤ x)) = true then some (.ret, ⟨[(4, .c (.s (some 0) 0 [])), (5, I 92)], [], 0⟩)
      else some (.exit 2, ⟨[(1, LT q c L), (2, .pt 0 0), (6, I i)], [(0, .box [I base, SL b1 c1 E.length (ints E), SL b2 c2 S.length (ints S)])], 1⟩) := by
  have g8 : i < E.length := by rcases Nat.lt_or_ge i E.length with h' | h'; exact h'; simp [h'] at he
  have g9 : (i : Int) < E.length := by omega
  have k8 : i < L.length := by rcases Nat.lt_or_ge i L.length with h' | h'; exact h'; simp [h'] at hi
  have k9 : (i : Int) < L.length := by omega
  intro r
  induction r with
  | nil =>
    intro j h1
    have h5 := drop_nil h1
    have h6 : ¬ (j : Int) < l.length := by omega
    rw [lp_eq lp40_7]
    simp (config := { maxSteps := 1000000 }) (disch := omega) only [push_cast, ↓reduceIte, Nat.reduceEqDiff, Nat.reduceAdd, Nat.reduceLT, Nat.reduceLeDiff, Nat.reduceBEq, Nat.reduceMul, Nat.reduceSub, Int.reduceToNat, Int.reduceEq, Int.reduceLT, Int.reduceLE, Int.reduceNeg, Int.reduceAdd, Int.reduceSub, Int.reduceMul, Try.f40, kr40, kp40_22, kp40_19, kp40_13, kp40_7, kp40_4, ow40_22, ow40_19, ow40_13, ow40_7, ow40_4, ty3, ty24, ty29, ty31, ty51, h6, k8, k9, lc_at hi, List.any_nil]
  | cons x r ih =>
    intro j h1
    obtain ⟨g1, g2, g3⟩ := drop_cons h1
    have h8 : (j : Int) < l.length := by omega
    have ih' := ih (j + 1) g3
    simp only [cast1, List.length_append, List.length_cons, List.length_nil, Nat.zero_add, Nat.add_zero, Int.natCast_zero, Int.natCast_add, Int.zero_add, ints_1, ints_0, ] at ih'
    rw [List.any_cons]
    rw [lp_eq lp40_7]
    by_cases hx : x < 0
    · simp (config := { maxSteps := 1000000 }) (disch := omega) only [push_cast, ↓reduceIte, Nat.reduceEqDiff, Nat.reduceAdd, Nat.reduceLT, Nat.reduceLeDiff, Nat.reduceBEq, Nat.reduceMul, Nat.reduceSub, Int.reduceToNat, Int.reduceEq, Int.reduceLT, Int.reduceLE, Int.reduceNeg, Int.reduceAdd, Int.reduceSub, Int.reduceMul, Try.f40, kr40, kp40_22, kp40_19, kp40_13, kp40_7, kp40_4, ow40_22, ow40_19, ow40_13, ow40_7, ow40_4, ty3, ty24, ty29, ty31, ty51, g1, h8, k8, k9, g8, g9, lc_at hi, getD_of g2, getD_of he, hx, true_or]
    · by_cases hy : e ≤ x
      · simp (config := { maxSteps := 1000000 }) (disch := omega) only [push_cast, ↓reduceIte, Nat.reduceEqDiff, Nat.reduceAdd, Nat.reduceLT, Nat.reduceLeDiff, Nat.reduceBEq, Nat.reduceMul, Nat.reduceSub, Int.reduceToNat, Int.reduceEq, Int.reduceLT, Int.reduceLE, Int.reduceNeg, Int.reduceAdd, Int.reduceSub, Int.reduceMul, Try.f40, kr40, kp40_22, kp40_19, kp40_13, kp40_7, kp40_4, ow40_22, ow40_19, ow40_13, ow40_7, ow40_4, ty3, ty24, ty29, ty31, ty51, g1, h8, k8, k9, g8, g9, lc_at hi, getD_of g2, getD_of he, hx, hy, or_true]
      · simp (config := { maxSteps := 1000000 }) (disch := omega) only [push_cast, ↓reduceIte, Nat.reduceEqDiff, Nat.reduceAdd, Nat.reduceLT, Nat.reduceLeDiff, Nat.reduceBEq, Nat.reduceMul, Nat.reduceSub, Int.reduceToNat, Int.reduceEq, Int.reduceLT, Int.reduceLE, Int.reduceNeg, Int.reduceAdd, Int.reduceSub, Int.reduceMul, Try.f40, kr40, kp40_22, kp40_19, kp40_13, kp40_7, kp40_4, ow40_22, ow40_19, ow40_13, ow40_7, ow40_4, ty3, ty24, ty29, ty31, ty51, g1, h8, k8, k9, g8, g9, lc_at hi, getD_of g2, getD_of he, hx, hy, or_self, ih']
theorem rl_Pick4 (hL : L.length ≤ 10) (h6 : ∀ l ∈ L, l.length ≤ 6000) (hE : E.length = L.length) : ∀ (r : List (List Int)) (t : List Int) (i : Nat), L.drop i = r → E.drop i = t →
    lp E0 pr0 40 4 ⟨[(1, LT q c L), (2, .pt 0 0), (6, I i)], [(0, .box [I base, SL b1 c1 E.length (ints E), SL b2 c2 S.length (ints S)])], 1⟩ =
      if badL r t = true then some (.ret, ⟨[(4, .c (.s (some 0) 0 [])), (5, I 92)], [], 0⟩)
      else some (.exit 0, ⟨[(1, LT q c L), (2, .pt 0 0)], [(0, .box [I base, SL b1 c1 E.length (ints E), SL b2 c2 S.length (ints S)])], 1⟩) := by
  intro r
  induction r with
  | nil =>
    intro t i h1 h2
    have h4 := drop_nil h1
    have h5 : ¬ (i : Int) < L.length := by omega
    rw [lp_eq lp40_4]
    simp (config := { maxSteps := 1000000 }) (disch := omega) only [push_cast, ↓reduceIte, Nat.reduceEqDiff, Nat.reduceAdd, Nat.reduceLT, Nat.reduceLeDiff, Nat.reduceBEq, Nat.reduceMul, Nat.reduceSub, Int.reduceToNat, Int.reduceEq, Int.reduceLT, Int.reduceLE, Int.reduceNeg, Int.reduceAdd, Int.reduceSub, Int.reduceMul, Try.f40, kr40, kp40_22, kp40_19, kp40_13, kp40_7, kp40_4, ow40_22, ow40_19, ow40_13, ow40_7, ow40_4, ty3, ty24, ty29, ty31, ty51, h5, badL]
  | cons l r ih =>
    intro t i h1 h2
    obtain ⟨h4, h5, h7⟩ := drop_cons h1
    have h8 : (i : Int) < L.length := by omega
    obtain ⟨s, t', rfl⟩ : ∃ s t', t = s :: t' := by
      cases t with
      | nil => have := drop_nil h2; omega
      | cons s t' => exact ⟨s, t', rfl⟩
    obtain ⟨k1, k2, k3⟩ := drop_cons h2
    have hl6 := h6 l (List.mem_of_getElem? h5)
    have hl := rl_Pick7 base b1 b2 q c1 c2 c E S L i l h5 s k2 hL hl6 l 0 rfl
    have ih' := ih t' (i + 1) h7 k3
    simp only [cast1, List.length_append, List.length_cons, List.length_nil, Nat.zero_add, Nat.add_zero, Int.natCast_zero, Int.natCast_add, Int.zero_add, ints_1, ints_0, ] at ih' hl
    simp only [badL]
    rw [lp_eq lp40_4]
    by_cases hb : (l.any fun x => decide (x < 0 ∨ s ≤ x)) = true
    · rw [if_pos hb] at hl
      simp (config := { maxSteps := 1000000 }) (disch := omega) only [push_cast, ↓reduceIte, Nat.reduceEqDiff, Nat.reduceAdd, Nat.reduceLT, Nat.reduceLeDiff, Nat.reduceBEq, Nat.reduceMul, Nat.reduceSub, Int.reduceToNat, Int.reduceEq, Int.reduceLT, Int.reduceLE, Int.reduceNeg, Int.reduceAdd, Int.reduceSub, Int.reduceMul, Try.f40, kr40, kp40_22, kp40_19, kp40_13, kp40_7, kp40_4, ow40_22, ow40_19, ow40_13, ow40_7, ow40_4, ty3, ty24, ty29, ty31, ty51, h4, h8, hl, hb]
    · rw [if_neg hb] at hl
      have hb' := Bool.eq_false_iff.2 hb
      simp (config := { maxSteps := 1000000 }) (disch := omega) only [push_cast, ↓reduceIte, Nat.reduceEqDiff, Nat.reduceAdd, Nat.reduceLT, Nat.reduceLeDiff, Nat.reduceBEq, Nat.reduceMul, Nat.reduceSub, Int.reduceToNat, Int.reduceEq, Int.reduceLT, Int.reduceLE, Int.reduceNeg, Int.reduceAdd, Int.reduceSub, Int.reduceMul, Try.f40, kr40, kp40_22, kp40_19, kp40_13, kp40_7, kp40_4, ow40_22, ow40_19, ow40_13, ow40_7, ow40_4, ty3, ty24, ty29, ty31, ty51, h4, h8, hl, hb', ih']
theorem rl_Pick22 (i : Nat) (s x : Int) (hs : S[i]? = some s) (l out : List Int) (hi : L[i]? = some l) (j : Nat) (hx : l[j]? = some x) (hL : L.length ≤ 10) (ho : out.length ≤ 4000) (hl6 : l.length ≤ 6000) : ∀ (r : List Int) (n : Nat) (nx : List Int) (cp : Option Nat), out.drop n = r → nx.length + r.length ≤ 4000 →
    lp E0 pr0 40 22 ⟨[(1, LT q c L), (2, .pt 0 0), (8, .sl 1 0 out.length 1 cp), (9, I i), (10, .sl 2 0 nx.length 1 none), (11, I j), (12, I n)],
        [(0, .box [I base, SL b1 c1 E.length (ints E), SL b2 c2 S.length (ints S)]), (1, .arr (ints out) 1 1), (2, .arr (ints nx) 2 1)], 3⟩ =
      some (.exit 8, ⟨[(1, LT q c L), (2, .pt 0 0), (8, .sl 1 0 out.length 1 cp), (9, I i), (10, .sl 2 0 (nx ++ rowW r s x).length 1 none), (11, I j)],
        [(0, .box [I base, SL b1 c1 E.length (ints E), SL b2 c2 S.length (ints S)]), (1, .arr (ints out) 1 1), (2, .arr (ints (nx ++ rowW r s x)) 2 1)], 3⟩) := by
  have k8 : i < L.length := by rcases Nat.lt_or_ge i L.length with h' | h'; exact h'; simp [h'] at hi
  have k9 : (i : Int) < L.length := by omega
  have m8 : j < l.length := by rcases Nat.lt_or_ge j l.length with h' | h'; exact h'; simp [h'] at hx
  have m9 : (j : Int) < l.length := by omega
  have h8 : i < S.length := by rcases Nat.lt_or_ge i S.length with h' | h'; exact h'; simp [h'] at hs
  have h9 : (i : Int) < S.length := by omega
  intro r
  induction r with
  | nil =>
    intro n nx cp h1 h2
    have h4 := drop_nil h1
    have h5 : ¬ (n : Int) < out.length := by omega
    rw [lp_eq lp40_22]
    simp (config := { maxSteps := 1000000 }) (disch := omega) only [push_cast, ↓reduceIte, Nat.reduceEqDiff, Nat.reduceAdd, Nat.reduceLT, Nat.reduceLeDiff, Nat.reduceBEq, Nat.reduceMul, Nat.reduceSub, Int.reduceToNat, Int.reduceEq, Int.reduceLT, Int.reduceLE, Int.reduceNeg, Int.reduceAdd, Int.reduceSub, Int.reduceMul, Try.f40, kr40, kp40_22, kp40_19, kp40_13, kp40_7, kp40_4, ow40_22, ow40_19, ow40_13, ow40_7, ow40_4, ty3, ty24, ty29, ty31, ty51, h5, rowW, List.map_nil, List.append_nil]
  | cons y r ih =>
    intro n nx cp h1 h2
    obtain ⟨h4, h5, h6⟩ := drop_cons h1
    have h7 : (n : Int) < out.length := by omega
    simp only [List.length_cons] at h2
    have e : nx ++ [IntKind.i64.wrap (y + IntKind.i64.wrap (x * s))] ++ rowW r s x = nx ++ rowW (y :: r) s x := by simp [rowW]
    have ih' := ih (n + 1) (nx ++ [IntKind.i64.wrap (y + IntKind.i64.wrap (x * s))]) cp h6 (by simp; omega)
    rw [e] at ih'
    simp only [cast1, List.length_append, List.length_cons, List.length_nil, Nat.zero_add, Nat.add_zero, Int.natCast_zero, Int.natCast_add, Int.zero_add, ints_1, ints_0, ] at ih'
    rw [lp_eq lp40_22]
    simp (config := { maxSteps := 1000000 }) (disch := omega) only [push_cast, ↓reduceIte, Nat.reduceEqDiff, Nat.reduceAdd, Nat.reduceLT, Nat.reduceLeDiff, Nat.reduceBEq, Nat.reduceMul, Nat.reduceSub, Int.reduceToNat, Int.reduceEq, Int.reduceLT, Int.reduceLE, Int.reduceNeg, Int.reduceAdd, Int.reduceSub, Int.reduceMul, Try.f40, kr40, kp40_22, kp40_19, kp40_13, kp40_7, kp40_4, ow40_22, ow40_19, ow40_13, ow40_7, ow40_4, ty3, ty24, ty29, ty31, ty51, h4, h7, h8, h9, k8, k9, m8, m9, lc_at hi, getD_of h5, getD_of hs, getD_of hx, ih']
theorem rl_Pick19 (i : Nat) (s : Int) (hs : S[i]? = some s) (l out : List Int) (hi : L[i]? = some l) (hL : L.length ≤ 10) (ho : out.length ≤ 4000) (hl6 : l.length ≤ 6000) : ∀ (r : List Int) (j : Nat) (nx : List Int) (cp : Option Nat), l.drop j = r → nx.length + r.length * out.length ≤ 4000 →
    lp E0 pr0 40 19 ⟨[(1, LT q c L), (2, .pt 0 0), (8, .sl 1 0 out.length 1 cp), (9, I i), (10, .sl 2 0 nx.length 1 none), (11, I j)],
        [(0, .box [I base, SL b1 c1 E.length (ints E), SL b2 c2 S.length (ints S)]), (1, .arr (ints out) 1 1), (2, .arr (ints nx) 2 1)], 3⟩ =
      some (.exit 6, ⟨[(1, LT q c L), (2, .pt 0 0), (9, I i), (10, .sl 1 0 (nx ++ combW out r s).length 1 none)],
        [(0, .box [I base, SL b1 c1 E.length (ints E), SL b2 c2 S.length (ints S)]), (1, .arr (ints (nx ++ combW out r s)) 1 1)], 2⟩) := by
  have k8 : i < L.length := by rcases Nat.lt_or_ge i L.length with h' | h'; exact h'; simp [h'] at hi
  have k9 : (i : Int) < L.length := by omega
  intro r
  induction r with
  | nil =>
    intro j nx cp h1 h2
    have h4 := drop_nil h1
    have h5 : ¬ (j : Int) < l.length := by omega
    rw [lp_eq lp40_19]
    simp (config := { maxSteps := 1000000 }) (disch := omega) only [push_cast, ↓reduceIte, Nat.reduceEqDiff, Nat.reduceAdd, Nat.reduceLT, Nat.reduceLeDiff, Nat.reduceBEq, Nat.reduceMul, Nat.reduceSub, Int.reduceToNat, Int.reduceEq, Int.reduceLT, Int.reduceLE, Int.reduceNeg, Int.reduceAdd, Int.reduceSub, Int.reduceMul, Try.f40, kr40, kp40_22, kp40_19, kp40_13, kp40_7, kp40_4, ow40_22, ow40_19, ow40_13, ow40_7, ow40_4, ty3, ty24, ty29, ty31, ty51, h5, k8, k9, lc_at hi, combW, List.flatMap_nil, List.append_nil]
  | cons x r ih =>
    intro j nx cp h1 h2
    obtain ⟨h4, h5, h6⟩ := drop_cons h1
    have h7 : (j : Int) < l.length := by omega
    rw [List.length_cons, Nat.succ_mul] at h2
    have hl := rl_Pick22 base b1 b2 q c1 c2 c E S L i s x hs l out hi j h5 hL ho hl6 out 0 nx cp rfl (by omega)
    have ih' := ih (j + 1) (nx ++ rowW out s x) cp h6 (by rw [List.length_append, rowW_length]; omega)
    rw [List.append_assoc, ← combW_cons] at ih'
    simp only [cast1, List.length_append, List.length_cons, List.length_nil, Nat.zero_add, Nat.add_zero, Int.natCast_zero, Int.natCast_add, Int.zero_add, ints_1, ints_0, ] at ih' hl
    rw [lp_eq lp40_19]
    simp (config := { maxSteps := 1000000 }) (disch := omega) only [push_cast, ↓reduceIte, Nat.reduceEqDiff, Nat.reduceAdd, Nat.reduceLT, Nat.reduceLeDiff, Nat.reduceBEq, Nat.reduceMul, Nat.reduceSub, Int.reduceToNat, Int.reduceEq, Int.reduceLT, Int.reduceLE, Int.reduceNeg, Int.reduceAdd, Int.reduceSub, Int.reduceMul, Try.f40, kr40, kp40_22, kp40_19, kp40_13, kp40_7, kp40_4, ow40_22, ow40_19, ow40_13, ow40_7, ow40_4, ty3, ty24, ty29, ty31, ty51, h4, h7, k8, k9, lc_at hi, hl, ih']
theorem rl_Pick13 (hL : L.length ≤ 10) (h6 : ∀ l ∈ L, l.length ≤ 6000) (hS : S.length = L.length) : ∀ (r : List (List Int)) (t : List Int) (i : Nat) (out : List Int) (cp : Option Nat), L.drop i = r → S.drop i = t → out.length ≤ 4000 →
    ∃ cp', lp E0 pr0 40 13 ⟨[(1, LT q c L), (2, .pt 0 0), (8, .sl 1 0 out.length 1 cp), (9, I i)],
        [(0, .box [I base, SL b1 c1 E.length (ints E), SL b2 c2 S.length (ints S)]), (1, .arr (ints out) 1 1)], 2⟩ =
      match pickW r t out with
      | none => some (.ret, ⟨[(4, .c (.s (some 0) 0 [])), (5, I 2)], [], 0⟩)
      | some o => some (.exit 4, ⟨[(8, .sl 0 0 o.length 1 cp')], [(0, .arr (ints o) 0 1)], 1⟩) := by
  intro r
  induction r with
  | nil =>
    intro t i out cp h1 h2 h3
    have h4 := drop_nil h1
    have h5 : ¬ (i : Int) < L.length := by omega
    refine ⟨cp, ?_⟩
    simp only [pickW]
    rw [lp_eq lp40_13]
    simp (config := { maxSteps := 1000000 }) (disch := omega) only [push_cast, ↓reduceIte, Nat.reduceEqDiff, Nat.reduceAdd, Nat.reduceLT, Nat.reduceLeDiff, Nat.reduceBEq, Nat.reduceMul, Nat.reduceSub, Int.reduceToNat, Int.reduceEq, Int.reduceLT, Int.reduceLE, Int.reduceNeg, Int.reduceAdd, Int.reduceSub, Int.reduceMul, Try.f40, kr40, kp40_22, kp40_19, kp40_13, kp40_7, kp40_4, ow40_22, ow40_19, ow40_13, ow40_7, ow40_4, ty3, ty24, ty29, ty31, ty51, h5]
  | cons l r ih =>
    intro t i out cp h1 h2 h3
    obtain ⟨h4, h5, h7⟩ := drop_cons h1
    have h8 : (i : Int) < L.length := by omega
    obtain ⟨s, t', rfl⟩ : ∃ s t', t = s :: t' := by
      cases t with
      | nil => have := drop_nil h2; omega
      | cons s t' => exact ⟨s, t', rfl⟩
    obtain ⟨k1, k2, k3⟩ := drop_cons h2
    have hl6 := h6 l (List.mem_of_getElem? h5)
    have hm : (out.length : Int) * l.length ≤ 24000000 := by
      have : out.length * l.length ≤ 4000 * 6000 := Nat.mul_le_mul h3 hl6
      rw [← Int.natCast_mul]; omega
    have hm0 : 0 ≤ (out.length : Int) * l.length := by rw [← Int.natCast_mul]; omega
    simp only [pickW]
    by_cases hb : 4000 < (out.length : Int) * l.length
    · refine ⟨none, ?_⟩
      rw [if_pos hb]
      rw [lp_eq lp40_13]
      simp (config := { maxSteps := 1000000 }) (disch := omega) only [push_cast, ↓reduceIte, Nat.reduceEqDiff, Nat.reduceAdd, Nat.reduceLT, Nat.reduceLeDiff, Nat.reduceBEq, Nat.reduceMul, Nat.reduceSub, Int.reduceToNat, Int.reduceEq, Int.reduceLT, Int.reduceLE, Int.reduceNeg, Int.reduceAdd, Int.reduceSub, Int.reduceMul, Try.f40, kr40, kp40_22, kp40_19, kp40_13, kp40_7, kp40_4, ow40_22, ow40_19, ow40_13, ow40_7, ow40_4, ty3, ty24, ty29, ty31, ty51, h4, h8, lc_at h5, hb]
    · rw [if_neg hb]
      have hb' : l.length * out.length ≤ 4000 := by
        have : ((out.length * l.length : Nat) : Int) ≤ 4000 := by rw [Int.natCast_mul]; omega
        rw [Nat.mul_comm]; omega
      have hl := rl_Pick19 base b1 b2 q c1 c2 c E S L i s k2 l out h5 hL h3 hl6 l 0 [] cp rfl (by simpa using hb')
      obtain ⟨cp', ih'⟩ := ih t' (i + 1) (combW out l s) none h7 k3 (by rw [combW_len]; exact hb')
      simp only [cast1, List.length_append, List.length_cons, List.length_nil, Nat.zero_add, Nat.add_zero, Int.natCast_zero, Int.natCast_add, Int.zero_add, ints_1, ints_0, ] at ih'
      simp only [cast1, List.length_append, List.length_cons, List.length_nil, Nat.zero_add, Nat.add_zero, Int.natCast_zero, Int.natCast_add, Int.zero_add, ints_1, ints_0, List.nil_append] at hl
      refine ⟨cp', ?_⟩
      rw [lp_eq lp40_13]
      simp (config := { maxSteps := 1000000 }) (disch := omega) only [push_cast, ↓reduceIte, Nat.reduceEqDiff, Nat.reduceAdd, Nat.reduceLT, Nat.reduceLeDiff, Nat.reduceBEq, Nat.reduceMul, Nat.reduceSub, Int.reduceToNat, Int.reduceEq, Int.reduceLT, Int.reduceLE, Int.reduceNeg, Int.reduceAdd, Int.reduceSub, Int.reduceMul, Try.f40, kr40, kp40_22, kp40_19, kp40_13, kp40_7, kp40_4, ow40_22, ow40_19, ow40_13, ow40_7, ow40_4, ty3, ty24, ty29, ty31, ty51, h4, h8, lc_at h5, hb, hl, ih']
theorem r_Pick (hb : base ≤ 9223372036854775807) (hE : (E.length : Int) ≤ 9223372036854775806) (hL : L.length ≤ 10) (h6 : ∀ l ∈ L, l.length ≤ 6000) :
    CALL 40 [Dsc base b1 c1 E b2 c2 S, LT q c L] = some (.tup [.sl 0 0 (pickQ base E S L).length 1 none, I (errPk base E S L)], [ints (pickQ base E S L)]) := by
  have hv := r_Valid base b1 b2 c1 c2 E S hb
  unfold pickQ errPk
  refine lim_run (fn := Try.f40) fn40 rfl body40 (Nat.le_of_ble_eq_true rfl) ok40 ?_
  by_cases hd : okD base E S
  · by_cases hn : (L.length : Int) = E.length
    · have hn' : L.length = E.length := by omega
      have hnt := eq_true hn
      have hnt' := eq_true hn'
      have hs : S.length = L.length := by rw [hd.2.2.1, hn']
      have hl := rl_Pick4 base b1 b2 q c1 c2 c E S L hL h6 hn'.symm L E 0 rfl rfl
      obtain ⟨cp', hl2⟩ := rl_Pick13 base b1 b2 q c1 c2 c E S L hL h6 hs L S 0 [base] (some 1) rfl rfl (by simp)
      simp only [cast1, List.length_append, List.length_cons, List.length_nil, Nat.zero_add, Nat.add_zero, Int.natCast_zero, Int.natCast_add, Int.zero_add, ints_1, ints_0, ] at hl hl2
      cases hb : badL L E with
      | true =>
        rw [hb] at hl
        simp (config := { maxSteps := 1000000 }) (disch := omega) only [push_cast, ↓reduceIte, Nat.reduceEqDiff, Nat.reduceAdd, Nat.reduceLT, Nat.reduceLeDiff, Nat.reduceBEq, Nat.reduceMul, Nat.reduceSub, Int.reduceToNat, Int.reduceEq, Int.reduceLT, Int.reduceLE, Int.reduceNeg, Int.reduceAdd, Int.reduceSub, Int.reduceMul, Try.f40, kr40, kp40_22, kp40_19, kp40_13, kp40_7, kp40_4, ow40_22, ow40_19, ow40_13, ow40_7, ow40_4, ty3, ty24, ty29, ty31, ty51, hv, hd, hnt, hnt', hl, hb, ne_eq]
      | false =>
        rw [hb] at hl
        cases hp : pickW L S [base] with
        | none =>
          rw [hp] at hl2
          simp (config := { maxSteps := 1000000 }) (disch := omega) only [push_cast, ↓reduceIte, Nat.reduceEqDiff, Nat.reduceAdd, Nat.reduceLT, Nat.reduceLeDiff, Nat.reduceBEq, Nat.reduceMul, Nat.reduceSub, Int.reduceToNat, Int.reduceEq, Int.reduceLT, Int.reduceLE, Int.reduceNeg, Int.reduceAdd, Int.reduceSub, Int.reduceMul, Try.f40, kr40, kp40_22, kp40_19, kp40_13, kp40_7, kp40_4, ow40_22, ow40_19, ow40_13, ow40_7, ow40_4, ty3, ty24, ty29, ty31, ty51, hv, hd, hnt, hnt', hl, hb, hl2, hp, ne_eq, reduceCtorEq]
        | some o =>
          rw [hp] at hl2
          simp (config := { maxSteps := 1000000 }) (disch := omega) only [push_cast, ↓reduceIte, Nat.reduceEqDiff, Nat.reduceAdd, Nat.reduceLT, Nat.reduceLeDiff, Nat.reduceBEq, Nat.reduceMul, Nat.reduceSub, Int.reduceToNat, Int.reduceEq, Int.reduceLT, Int.reduceLE, Int.reduceNeg, Int.reduceAdd, Int.reduceSub, Int.reduceMul, Try.f40, kr40, kp40_22, kp40_19, kp40_13, kp40_7, kp40_4, ow40_22, ow40_19, ow40_13, ow40_7, ow40_4, ty3, ty24, ty29, ty31, ty51, hv, hd, hnt, hnt', hl, hb, hl2, hp, ne_eq, reduceCtorEq]
    · have hn' : ¬ L.length = E.length := by omega
      simp (config := { maxSteps := 1000000 }) (disch := omega) only [push_cast, ↓reduceIte, Nat.reduceEqDiff, Nat.reduceAdd, Nat.reduceLT, Nat.reduceLeDiff, Nat.reduceBEq, Nat.reduceMul, Nat.reduceSub, Int.reduceToNat, Int.reduceEq, Int.reduceLT, Int.reduceLE, Int.reduceNeg, Int.reduceAdd, Int.reduceSub, Int.reduceMul, Try.f40, kr40, kp40_22, kp40_19, kp40_13, kp40_7, kp40_4, ow40_22, ow40_19, ow40_13, ow40_7, ow40_4, ty3, ty24, ty29, ty31, ty51, hv, hd, hn, hn', ne_eq]
  · simp (config := { maxSteps := 1000000 }) (disch := omega) only [push_cast, ↓reduceIte, Nat.reduceEqDiff, Nat.reduceAdd, Nat.reduceLT, Nat.reduceLeDiff, Nat.reduceBEq, Nat.reduceMul, Nat.reduceSub, Int.reduceToNat, Int.reduceEq, Int.reduceLT, Int.reduceLE, Int.reduceNeg, Int.reduceAdd, Int.reduceSub, Int.reduceMul, Try.f40, kr40, kp40_22, kp40_19, kp40_13, kp40_7, kp40_4, ow40_22, ow40_19, ow40_13, ow40_7, ow40_4, ty3, ty24, ty29, ty31, ty51, hv, hd, ne_eq]
end
end Go.Proofs.Yticjlkommabcjaa.Tev
