/- section.Pick and the document's: the places that lists of subscripts stand for. -/
import Derived.Test.YticjlkommabcjaaCSec3
import Derived.Test.YticjlkommabcjaaCRef2
namespace Go.Proofs.Yticjlkommabcjaa.Tev
open Go Go.RowKit Go.Proofs Go.Proofs.Yticjlkommabcjaa.Q
set_option linter.unusedSectionVars false
set_option maxRecDepth 100000
set_option maxHeartbeats 0
set_option linter.unusedSimpArgs false
set_option linter.unusedVariables false
/-! Lists of lists. -/
abbrev LC (l : List Int) : C := .s none l.length (ints l)
def rowsC (L : List (List Int)) : List C := L.flatMap fun l => [LC l]
abbrev LT (q : Bool) (c : Option Nat) (L : List (List Int)) : T := SL q c L.length (rowsC L)
theorem lc_at {L : List (List Int)} {i : Nat} {l : List Int} (h : L[i]? = some l) : (rowsC L)[i]? = some (LC l) := by
  have := flat_get (enc := fun l => [LC l]) (sz := 1) (fun _ => rfl) h 0 (by decide)
  unfold rowsC
  simpa using this
/-! What comes out. -/
def combW (out l : List Int) (s : Int) : List Int := l.flatMap fun x => rowW out s x
theorem combW_cons (out l : List Int) (s x : Int) : combW out (x :: l) s = rowW out s x ++ combW out l s := rfl
theorem combW_len (out l : List Int) (s : Int) : (combW out l s).length = l.length * out.length := by
  induction l with
  | nil => simp [combW]
  | cons x l ih => rw [combW_cons, List.length_append, rowW_length, ih, List.length_cons, Nat.succ_mul]; omega
def pickW : List (List Int) → List Int → List Int → Option (List Int)
  | l :: r, s :: q, out => if 4000 < (out.length : Int) * l.length then none else pickW r q (combW out l s)
  | _, _, out => some out
def badL : List (List Int) → List Int → Bool
  | l :: r, e :: q => (l.any fun x => decide (x < 0 ∨ e ≤ x)) || badL r q
  | _, _ => false
theorem pickW_len : ∀ (L : List (List Int)) (S out o : List Int), out.length ≤ 4000 → pickW L S out = some o → o.length ≤ 4000
  | [], S, out, o, h, e => by simp only [pickW, Option.some.injEq] at e; subst e; exact h
  | l :: r, [], out, o, h, e => by simp only [pickW, Option.some.injEq] at e; subst e; exact h
  | l :: r, s :: q, out, o, h, e => by
    simp only [pickW] at e
    split at e
    · simp at e
    · rename_i hn
      refine pickW_len r q (combW out l s) o ?_ e
      rw [combW_len, Nat.mul_comm]
      have : ((out.length * l.length : Nat) : Int) ≤ 4000 := by rw [Int.natCast_mul]; omega
      omega
def errPk (base : Int) (E S : List Int) (L : List (List Int)) : Int :=
  if okD base E S ∧ L.length = E.length then (if badL L E = true then 92 else if pickW L S [base] = none then 2 else 0) else 2
def pickQ (base : Int) (E S : List Int) (L : List (List Int)) : List Int := if errPk base E S L = 0 then (pickW L S [base]).getD [] else []
theorem pickQ_len (base : Int) (E S : List Int) (L : List (List Int)) : (pickQ base E S L).length ≤ 4000 := by
  unfold pickQ
  split
  · cases h : pickW L S [base] with
    | none => simp
    | some o => exact pickW_len L S [base] o (by simp) h
  · simp
section
variable (base : Int) (b1 b2 q : Bool) (c1 c2 c : Option Nat) (E S : List Int) (L : List (List Int))
theorem c_Pick1 (x : Int) (i : Nat) (e : Int) (h : E[i]? = some e) : CALL 56 [I x, .rb [.c (CI base), US b1 c1 E.length (ints E), US b2 c2 S.length (ints S)] 0, .rb [.c (CI i)] 0] = some (B (decide (x < 0 ∨ e ≤ x)), []) := by
  have g8 : i < E.length := by rcases Nat.lt_or_ge i E.length with h' | h'; exact h'; simp [h'] at h
  have g9 : (i : Int) < E.length := by omega
  refine lim_run (fn := Try.f56) fn56 rfl body56 (Nat.le_of_ble_eq_true rfl) ok56 ?_
  by_cases hx : x < 0
  · simp (config := { maxSteps := 1000000 }) (disch := omega) only [push_cast, ↓reduceIte, Nat.reduceEqDiff, Nat.reduceAdd, Nat.reduceLT, Nat.reduceLeDiff, Nat.reduceBEq, Nat.reduceMul, Nat.reduceSub, Int.reduceToNat, Int.reduceEq, Int.reduceLT, Int.reduceLE, Int.reduceNeg, Int.reduceAdd, Int.reduceSub, Int.reduceMul, Try.f56, kr56, ty3, ty4, ty29, ty31, tb4, hx, g8, g9, getD_of h, true_or]
  · simp (config := { maxSteps := 1000000 }) (disch := omega) only [push_cast, ↓reduceIte, Nat.reduceEqDiff, Nat.reduceAdd, Nat.reduceLT, Nat.reduceLeDiff, Nat.reduceBEq, Nat.reduceMul, Nat.reduceSub, Int.reduceToNat, Int.reduceEq, Int.reduceLT, Int.reduceLE, Int.reduceNeg, Int.reduceAdd, Int.reduceSub, Int.reduceMul, Try.f56, kr56, ty3, ty4, ty29, ty31, tb4, hx, g8, g9, getD_of h]
    simp
theorem l_Pick20 (i : Nat) (s x : Int) (hs : S[i]? = some s) (l out : List Int) (js : Int) (ho : out.length ≤ 4000) : ∀ (r : List Int) (n : Nat) (nx : List Int) (cp : Option Nat), out.drop n = r → nx.length + r.length ≤ 4000 →
    lp E0 pr0 39 20 ⟨[(2, .pt 0 0), (6, .sl 1 0 out.length 1 cp), (9, I i), (11, .sl 2 0 nx.length 1 none), (13, I x), (41, LT q c L), (42, I L.length), (43, I i), (54, .c (LC l)), (55, I l.length), (56, I js), (60, .sl 1 0 out.length 1 cp), (61, I out.length), (62, I n)],
        [(0, .box [I base, SL b1 c1 E.length (ints E), SL b2 c2 S.length (ints S)]), (1, .arr (ints out) 1 1), (2, .arr (ints nx) 2 1)], 3⟩ =
      some (.exit 6, ⟨[(2, .pt 0 0), (6, .sl 1 0 out.length 1 cp), (9, I i), (11, .sl 2 0 (nx ++ rowW r s x).length 1 none), (41, LT q c L), (42, I L.length), (43, I i), (54, .c (LC l)), (55, I l.length), (56, I js)],
        [(0, .box [I base, SL b1 c1 E.length (ints E), SL b2 c2 S.length (ints S)]), (1, .arr (ints out) 1 1), (2, .arr (ints (nx ++ rowW r s x)) 2 1)], 3⟩) := by
  intro r
  induction r with
  | nil =>
    intro n nx cp h1 h2
    have h4 := drop_nil h1
    have h5 : ¬ (n : Int) < out.length := by omega
    rw [lp_eq lp39_20]
    simp (config := { maxSteps := 1000000 }) (disch := omega) only [push_cast, ↓reduceIte, Nat.reduceEqDiff, Nat.reduceAdd, Nat.reduceLT, Nat.reduceLeDiff, Nat.reduceBEq, Nat.reduceMul, Nat.reduceSub, Int.reduceToNat, Int.reduceEq, Int.reduceLT, Int.reduceLE, Int.reduceNeg, Int.reduceAdd, Int.reduceSub, Int.reduceMul, Try.f39, kr39, kp39_20, kp39_17, kp39_11, kp39_5, ow39_20, ow39_17, ow39_11, ow39_5, ty3, ty24, ty29, ty31, ty51, h5, rowW, List.map_nil, List.append_nil]
  | cons y r ih =>
    intro n nx cp h1 h2
    obtain ⟨h4, h5, h6⟩ := drop_cons h1
    have h7 : (n : Int) < out.length := by omega
    have h8 : i < S.length := by rcases Nat.lt_or_ge i S.length with h' | h'; exact h'; simp [h'] at hs
    have h9 : (i : Int) < S.length := by omega
    simp only [List.length_cons] at h2
    have e : nx ++ [IntKind.i64.wrap (y + IntKind.i64.wrap (x * s))] ++ rowW r s x = nx ++ rowW (y :: r) s x := by simp [rowW]
    have ih' := ih (n + 1) (nx ++ [IntKind.i64.wrap (y + IntKind.i64.wrap (x * s))]) cp h6 (by simp; omega)
    rw [e] at ih'
    simp only [cast1, List.length_append, List.length_cons, List.length_nil, Nat.zero_add, Nat.add_zero, Int.natCast_zero, Int.natCast_add, Int.zero_add, ints_1, ints_0, ] at ih'
    rw [lp_eq lp39_20]
    simp (config := { maxSteps := 1000000 }) (disch := omega) only [push_cast, ↓reduceIte, Nat.reduceEqDiff, Nat.reduceAdd, Nat.reduceLT, Nat.reduceLeDiff, Nat.reduceBEq, Nat.reduceMul, Nat.reduceSub, Int.reduceToNat, Int.reduceEq, Int.reduceLT, Int.reduceLE, Int.reduceNeg, Int.reduceAdd, Int.reduceSub, Int.reduceMul, Try.f39, kr39, kp39_20, kp39_17, kp39_11, kp39_5, ow39_20, ow39_17, ow39_11, ow39_5, ty3, ty24, ty29, ty31, ty51, h4, h7, h8, h9, getD_of h5, getD_of hs, ih']
theorem l_Pick17 (i : Nat) (s : Int) (hs : S[i]? = some s) (l out : List Int) (ho : out.length ≤ 4000) (hl : l.length ≤ 6000) : ∀ (r : List Int) (j : Nat) (nx : List Int) (cp : Option Nat), l.drop j = r → nx.length + r.length * out.length ≤ 4000 →
    lp E0 pr0 39 17 ⟨[(2, .pt 0 0), (6, .sl 1 0 out.length 1 cp), (9, I i), (11, .sl 2 0 nx.length 1 none), (41, LT q c L), (42, I L.length), (43, I i), (54, .c (LC l)), (55, I l.length), (56, I j)],
        [(0, .box [I base, SL b1 c1 E.length (ints E), SL b2 c2 S.length (ints S)]), (1, .arr (ints out) 1 1), (2, .arr (ints nx) 2 1)], 3⟩ =
      some (.exit 4, ⟨[(2, .pt 0 0), (11, .sl 1 0 (nx ++ combW out r s).length 1 none), (41, LT q c L), (42, I L.length), (43, I i)],
        [(0, .box [I base, SL b1 c1 E.length (ints E), SL b2 c2 S.length (ints S)]), (1, .arr (ints (nx ++ combW out r s)) 1 1)], 2⟩) := by
  intro r
  induction r with
  | nil =>
    intro j nx cp h1 h2
    have h4 := drop_nil h1
    have h5 : ¬ (j : Int) < l.length := by omega
    rw [lp_eq lp39_17]
    simp (config := { maxSteps := 1000000 }) (disch := omega) only [push_cast, ↓reduceIte, Nat.reduceEqDiff, Nat.reduceAdd, Nat.reduceLT, Nat.reduceLeDiff, Nat.reduceBEq, Nat.reduceMul, Nat.reduceSub, Int.reduceToNat, Int.reduceEq, Int.reduceLT, Int.reduceLE, Int.reduceNeg, Int.reduceAdd, Int.reduceSub, Int.reduceMul, Try.f39, kr39, kp39_20, kp39_17, kp39_11, kp39_5, ow39_20, ow39_17, ow39_11, ow39_5, ty3, ty24, ty29, ty31, ty51, h5, combW, List.flatMap_nil, List.append_nil]
  | cons x r ih =>
    intro j nx cp h1 h2
    obtain ⟨h4, h5, h6⟩ := drop_cons h1
    have h7 : (j : Int) < l.length := by omega
    rw [List.length_cons, Nat.succ_mul] at h2
    have hl := l_Pick20 base b1 b2 q c1 c2 c E S L i s x hs l out j ho out 0 nx cp rfl (by omega)
    have ih' := ih (j + 1) (nx ++ rowW out s x) cp h6 (by rw [List.length_append, rowW_length]; omega)
    rw [List.append_assoc, ← combW_cons] at ih'
    simp only [cast1, List.length_append, List.length_cons, List.length_nil, Nat.zero_add, Nat.add_zero, Int.natCast_zero, Int.natCast_add, Int.zero_add, ints_1, ints_0, ] at ih' hl
    rw [lp_eq lp39_17]
    simp (config := { maxSteps := 1000000 }) (disch := omega) only [push_cast, ↓reduceIte, Nat.reduceEqDiff, Nat.reduceAdd, Nat.reduceLT, Nat.reduceLeDiff, Nat.reduceBEq, Nat.reduceMul, Nat.reduceSub, Int.reduceToNat, Int.reduceEq, Int.reduceLT, Int.reduceLE, Int.reduceNeg, Int.reduceAdd, Int.reduceSub, Int.reduceMul, Try.f39, kr39, kp39_20, kp39_17, kp39_11, kp39_5, ow39_20, ow39_17, ow39_11, ow39_5, ty3, ty24, ty29, ty31, ty51, h4, h7, getD_of h5, hl, ih']
theorem l_Pick11 (hL : L.length ≤ 10) (h6 : ∀ l ∈ L, l.length ≤ 6000) (hS : S.length = L.length) : ∀ (r : List (List Int)) (t : List Int) (i : Nat) (out : List Int) (cp : Option Nat), L.drop i = r → S.drop i = t → out.length ≤ 4000 →
    ∃ cp', lp E0 pr0 39 11 ⟨[(2, .pt 0 0), (6, .sl 1 0 out.length 1 cp), (41, LT q c L), (42, I L.length), (43, I i)],
        [(0, .box [I base, SL b1 c1 E.length (ints E), SL b2 c2 S.length (ints S)]), (1, .arr (ints out) 1 1)], 2⟩ =
      match pickW r t out with
      | none => some (.ret, ⟨[(4, .c (.s (some 0) 0 [])), (5, I 2)], [], 0⟩)
      | some o => some (.exit 2, ⟨[(6, .sl 0 0 o.length 1 cp')], [(0, .arr (ints o) 0 1)], 1⟩) := by
  intro r
  induction r with
  | nil =>
    intro t i out cp h1 h2 h3
    have h4 := drop_nil h1
    have h5 : ¬ (i : Int) < L.length := by omega
    refine ⟨cp, ?_⟩
    simp only [pickW]
    rw [lp_eq lp39_11]
    simp (config := { maxSteps := 1000000 }) (disch := omega) only [push_cast, ↓reduceIte, Nat.reduceEqDiff, Nat.reduceAdd, Nat.reduceLT, Nat.reduceLeDiff, Nat.reduceBEq, Nat.reduceMul, Nat.reduceSub, Int.reduceToNat, Int.reduceEq, Int.reduceLT, Int.reduceLE, Int.reduceNeg, Int.reduceAdd, Int.reduceSub, Int.reduceMul, Try.f39, kr39, kp39_20, kp39_17, kp39_11, kp39_5, ow39_20, ow39_17, ow39_11, ow39_5, ty3, ty24, ty29, ty31, ty51, h5]
  | cons l r ih =>
    intro t i out cp h1 h2 h3
    obtain ⟨h4, h5, h7⟩ := drop_cons h1
    have h8 : (i : Int) < L.length := by omega
    obtain ⟨s, t', rfl⟩ : ∃ s t', t = s :: t' := by
      cases t with
      | nil => have := drop_nil h2; omega
      | cons s t' => exact ⟨s, t', rfl⟩
    obtain ⟨k1, k2, k3⟩ := drop_cons h2
    have hl6 := h6 l (List.mem_of_getElem? h5)
    have hm : (out.length : Int) * l.length ≤ 24000000 := by
      have : out.length * l.length ≤ 4000 * 6000 := Nat.mul_le_mul h3 hl6
      rw [← Int.natCast_mul]; omega
    have hm0 : 0 ≤ (out.length : Int) * l.length := by rw [← Int.natCast_mul]; omega
    simp only [pickW]
    by_cases hb : 4000 < (out.length : Int) * l.length
    · refine ⟨none, ?_⟩
      rw [if_pos hb]
      rw [lp_eq lp39_11]
      simp (config := { maxSteps := 1000000 }) (disch := omega) only [push_cast, ↓reduceIte, Nat.reduceEqDiff, Nat.reduceAdd, Nat.reduceLT, Nat.reduceLeDiff, Nat.reduceBEq, Nat.reduceMul, Nat.reduceSub, Int.reduceToNat, Int.reduceEq, Int.reduceLT, Int.reduceLE, Int.reduceNeg, Int.reduceAdd, Int.reduceSub, Int.reduceMul, Try.f39, kr39, kp39_20, kp39_17, kp39_11, kp39_5, ow39_20, ow39_17, ow39_11, ow39_5, ty3, ty24, ty29, ty31, ty51, h4, h8, lc_at h5, hb]
    · rw [if_neg hb]
      have hb' : l.length * out.length ≤ 4000 := by
        have : ((out.length * l.length : Nat) : Int) ≤ 4000 := by rw [Int.natCast_mul]; omega
        rw [Nat.mul_comm]; omega
      have hl := l_Pick17 base b1 b2 q c1 c2 c E S L i s k2 l out h3 hl6 l 0 [] cp rfl (by simpa using hb')
      obtain ⟨cp', ih'⟩ := ih t' (i + 1) (combW out l s) none h7 k3 (by rw [combW_len]; exact hb')
      simp only [cast1, List.length_append, List.length_cons, List.length_nil, Nat.zero_add, Nat.add_zero, Int.natCast_zero, Int.natCast_add, Int.zero_add, ints_1, ints_0, ] at ih'
      simp only [cast1, List.length_append, List.length_cons, List.length_nil, Nat.zero_add, Nat.add_zero, Int.natCast_zero, Int.natCast_add, Int.zero_add, ints_1, ints_0, List.nil_append] at hl
      refine ⟨cp', ?_⟩
      rw [lp_eq lp39_11]
      simp (config := { maxSteps := 1000000 }) (disch := omega) only [push_cast, ↓reduceIte, Nat.reduceEqDiff, Nat.reduceAdd, Nat.reduceLT, Nat.reduceLeDiff, Nat.reduceBEq, Nat.reduceMul, Nat.reduceSub, Int.reduceToNat, Int.reduceEq, Int.reduceLT, Int.reduceLE, Int.reduceNeg, Int.reduceAdd, Int.reduceSub, Int.reduceMul, Try.f39, kr39, kp39_20, kp39_17, kp39_11, kp39_5, ow39_20, ow39_17, ow39_11, ow39_5, ty3, ty24, ty29, ty31, ty51, h4, h8, lc_at h5, hb, hl, ih']
theorem l_Pick5 (hL : L.length ≤ 10) (h6 : ∀ l ∈ L, l.length ≤ 6000) (hE : E.length = L.length) : ∀ (r : List (List Int)) (t : List Int) (i : Nat), L.drop i = r → E.drop i = t →
    lp E0 pr0 39 5 ⟨[(1, LT q c L), (2, .pt 0 0), (6, .sl 1 0 1 1 (some 1)), (30, LT q c L), (31, I L.length), (32, I i)],
        [(0, .box [I base, SL b1 c1 E.length (ints E), SL b2 c2 S.length (ints S)]), (1, .arr [CI base] 1 1)], 2⟩ =
      if badL r t = true then some (.ret, ⟨[(4, .c (.s (some 0) 0 [])), (5, I 92)], [], 0⟩)
      else some (.exit 0, ⟨[(1, LT q c L), (2, .pt 0 0), (6, .sl 1 0 1 1 (some 1))], [(0, .box [I base, SL b1 c1 E.length (ints E), SL b2 c2 S.length (ints S)]), (1, .arr [CI base] 1 1)], 2⟩) := by
  intro r
  induction r with
  | nil =>
    intro t i h1 h2
    have h4 := drop_nil h1
    have h5 : ¬ (i : Int) < L.length := by omega
    rw [lp_eq lp39_5]
    simp (config := { maxSteps := 1000000 }) (disch := omega) only [push_cast, ↓reduceIte, Nat.reduceEqDiff, Nat.reduceAdd, Nat.reduceLT, Nat.reduceLeDiff, Nat.reduceBEq, Nat.reduceMul, Nat.reduceSub, Int.reduceToNat, Int.reduceEq, Int.reduceLT, Int.reduceLE, Int.reduceNeg, Int.reduceAdd, Int.reduceSub, Int.reduceMul, Try.f39, kr39, kp39_20, kp39_17, kp39_11, kp39_5, ow39_20, ow39_17, ow39_11, ow39_5, ty3, ty24, ty29, ty31, ty51, h5, badL]
  | cons l r ih =>
    intro t i h1 h2
    obtain ⟨h4, h5, h7⟩ := drop_cons h1
    have h8 : (i : Int) < L.length := by omega
    obtain ⟨s, t', rfl⟩ : ∃ s t', t = s :: t' := by
      cases t with
      | nil => have := drop_nil h2; omega
      | cons s t' => exact ⟨s, t', rfl⟩
    obtain ⟨k1, k2, k3⟩ := drop_cons h2
    have hl6 := h6 l (List.mem_of_getElem? h5)
    have hc := c_ContainsFunc 56 [.rb [.c (CI base), US b1 c1 E.length (ints E), US b2 c2 S.length (ints S)] 0, .rb [.c (CI i)] 0] _ (fun x => c_Pick1 base b1 b2 c1 c2 E S x i s k2) (shut_rb2 _ _ _ _) true none l (by omega)
    have ih' := ih t' (i + 1) h7 k3
    simp only [cast1, List.length_append, List.length_cons, List.length_nil, Nat.zero_add, Nat.add_zero, Int.natCast_zero, Int.natCast_add, Int.zero_add, ints_1, ints_0, ] at ih'
    simp only [badL]
    rw [lp_eq lp39_5]
    by_cases hb : (l.any fun x => decide (x < 0 ∨ s ≤ x)) = true
    · rw [hb] at hc
      simp (config := { maxSteps := 1000000 }) (disch := omega) only [push_cast, ↓reduceIte, Nat.reduceEqDiff, Nat.reduceAdd, Nat.reduceLT, Nat.reduceLeDiff, Nat.reduceBEq, Nat.reduceMul, Nat.reduceSub, Int.reduceToNat, Int.reduceEq, Int.reduceLT, Int.reduceLE, Int.reduceNeg, Int.reduceAdd, Int.reduceSub, Int.reduceMul, Try.f39, kr39, kp39_20, kp39_17, kp39_11, kp39_5, ow39_20, ow39_17, ow39_11, ow39_5, ty3, ty24, ty29, ty31, ty51, h4, h8, lc_at h5, hc, hb]
    · have hb' := Bool.eq_false_iff.2 hb
      rw [hb'] at hc
      simp (config := { maxSteps := 1000000 }) (disch := omega) only [push_cast, ↓reduceIte, Nat.reduceEqDiff, Nat.reduceAdd, Nat.reduceLT, Nat.reduceLeDiff, Nat.reduceBEq, Nat.reduceMul, Nat.reduceSub, Int.reduceToNat, Int.reduceEq, Int.reduceLT, Int.reduceLE, Int.reduceNeg, Int.reduceAdd, Int.reduceSub, Int.reduceMul, Try.f39, kr39, kp39_20, kp39_17, kp39_11, kp39_5, ow39_20, ow39_17, ow39_11, ow39_5, ty3, ty24, ty29, ty31, ty51, h4, h8, lc_at h5, hc, hb', ih']
end
end Go.Proofs.Yticjlkommabcjaa.Tev
