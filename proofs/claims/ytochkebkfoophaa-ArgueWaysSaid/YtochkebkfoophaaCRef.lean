/- What the document's functions on sections return. -/
import Derived.Test.YtochkebkfoophaaCSec
namespace Go.Proofs.Ytochkebkfoophaa.Tev
open Go Go.RowKit Go.Proofs Go.Proofs.Ytochkebkfoophaa.Q
set_option linter.unusedSectionVars false
set_option maxRecDepth 100000
set_option maxHeartbeats 0
set_option linter.unusedSimpArgs false
set_option linter.unusedVariables false
theorem r_near (n : Int) : CALL 55 [I n] = some (B (decide (nearS n)), []) := by
  refine lim_run (fn := Try.f55) fn55 rfl body55 (Nat.le_of_ble_eq_true rfl) ok55 ?_
  simp (config := { maxSteps := 1000000 }) (disch := omega) only [push_cast, ↓reduceIte, Nat.reduceEqDiff, Nat.reduceAdd, Nat.reduceLT, Nat.reduceLeDiff, Nat.reduceBEq, Nat.reduceMul, Nat.reduceSub, Int.reduceToNat, Int.reduceEq, Int.reduceLT, Int.reduceLE, Int.reduceNeg, Int.reduceAdd, Int.reduceSub, Int.reduceMul, Try.f55, kr55, ty4, tb4]
  unfold nearS
  by_cases h : -2147483648 ≤ n <;> simp [h]
def in4 (e : Int) : Prop := 0 ≤ e ∧ e ≤ 4000
instance (e : Int) : Decidable (in4 e) := by unfold in4; infer_instance
theorem rl_size (b : Bool) (cap : Option Nat) (E : List Int) (h3 : E.length ≤ 3) :
    ∀ (r : List Int) (i : Nat) (a : Int), E.drop i = r → 0 ≤ a → a ≤ B4 i → lp E0 pr0 54 5 ⟨[(0, SL b cap E.length (ints E)), (3, I a), (4, I i)], [], 0⟩ =
      if ∀ e ∈ r, in4 e then some (.exit 0, ⟨[(3, I (a * pr r))], [], 0⟩) else some (.ret, ⟨[(2, I (-1))], [], 0⟩) := by
  intro r
  induction r with
  | nil =>
    intro i a hi h0 h1
    have h2 := drop_nil hi
    have h2 : ¬ (i : Int) < E.length := by omega
    rw [lp_eq lp54_5]
    simp (config := { maxSteps := 1000000 }) (disch := omega) only [push_cast, ↓reduceIte, Nat.reduceEqDiff, Nat.reduceAdd, Nat.reduceLT, Nat.reduceLeDiff, Nat.reduceBEq, Nat.reduceMul, Nat.reduceSub, Int.reduceToNat, Int.reduceEq, Int.reduceLT, Int.reduceLE, Int.reduceNeg, Int.reduceAdd, Int.reduceSub, Int.reduceMul, Try.f54, kr54, kp54_5, ow54_5, ty3, ty22, h2]
    simp [pr]
  | cons x r ih =>
    intro i a hi h0 h1
    obtain ⟨h2, h4, h5⟩ := drop_cons hi
    have h6 : (i : Int) < E.length := by omega
    by_cases hx : in4 x
    · obtain ⟨e0, e1⟩ := id hx
      obtain ⟨b0, b1⟩ := B4_step (n := i) (by omega) h0 h1 e0 e1
      have b2 := B4_le (i + 1)
      have ih' := ih (i + 1) (a * x) h5 b0 b1
      simp only [cast1, List.length_append, List.length_cons, List.length_nil, Nat.zero_add, Nat.add_zero, Int.natCast_zero, Int.natCast_add, Int.zero_add, ints_1, ints_0, ] at ih'
      have e2 : ¬ x < 0 := by omega
      have e3 : ¬ 4000 < x := by omega
      rw [lp_eq lp54_5]
      simp (config := { maxSteps := 1000000 }) (disch := omega) only [push_cast, ↓reduceIte, Nat.reduceEqDiff, Nat.reduceAdd, Nat.reduceLT, Nat.reduceLeDiff, Nat.reduceBEq, Nat.reduceMul, Nat.reduceSub, Int.reduceToNat, Int.reduceEq, Int.reduceLT, Int.reduceLE, Int.reduceNeg, Int.reduceAdd, Int.reduceSub, Int.reduceMul, Try.f54, kr54, kp54_5, ow54_5, ty3, ty22, h2, h6, getD_of h4, e2, e3, ih', List.forall_mem_cons, hx, pr, Int.mul_assoc]
    · have hn : ¬ ∀ e ∈ x :: r, in4 e := fun h => hx (h x (by simp))
      rw [if_neg hn]
      rw [lp_eq lp54_5]
      by_cases e2 : x < 0
      · simp (config := { maxSteps := 1000000 }) (disch := omega) only [push_cast, ↓reduceIte, Nat.reduceEqDiff, Nat.reduceAdd, Nat.reduceLT, Nat.reduceLeDiff, Nat.reduceBEq, Nat.reduceMul, Nat.reduceSub, Int.reduceToNat, Int.reduceEq, Int.reduceLT, Int.reduceLE, Int.reduceNeg, Int.reduceAdd, Int.reduceSub, Int.reduceMul, Try.f54, kr54, kp54_5, ow54_5, ty3, ty22, h2, h6, getD_of h4, e2]
      · have e3 : 4000 < x := by unfold in4 at hx; omega
        simp (config := { maxSteps := 1000000 }) (disch := omega) only [push_cast, ↓reduceIte, Nat.reduceEqDiff, Nat.reduceAdd, Nat.reduceLT, Nat.reduceLeDiff, Nat.reduceBEq, Nat.reduceMul, Nat.reduceSub, Int.reduceToNat, Int.reduceEq, Int.reduceLT, Int.reduceLE, Int.reduceNeg, Int.reduceAdd, Int.reduceSub, Int.reduceMul, Try.f54, kr54, kp54_5, ow54_5, ty3, ty22, h2, h6, getD_of h4, e2, e3]
theorem r_size (b : Bool) (cap : Option Nat) (E : List Int) : CALL 54 [SL b cap E.length (ints E)] = some (I (sizeQ E), []) := by
  refine lim_run (fn := Try.f54) fn54 rfl body54 (Nat.le_of_ble_eq_true rfl) ok54 ?_
  unfold sizeQ exts
  by_cases h3 : 3 < (E.length : Int)
  · simp (config := { maxSteps := 1000000 }) (disch := omega) only [push_cast, ↓reduceIte, Nat.reduceEqDiff, Nat.reduceAdd, Nat.reduceLT, Nat.reduceLeDiff, Nat.reduceBEq, Nat.reduceMul, Nat.reduceSub, Int.reduceToNat, Int.reduceEq, Int.reduceLT, Int.reduceLE, Int.reduceNeg, Int.reduceAdd, Int.reduceSub, Int.reduceMul, Try.f54, kr54, kp54_5, ow54_5, ty3, ty22, h3]
    rw [if_neg (by omega)]
  · have hl := rl_size b cap E (by omega) E 0 1 rfl (by omega) (by simp [B4])
    simp only [cast1, List.length_append, List.length_cons, List.length_nil, Nat.zero_add, Nat.add_zero, Int.natCast_zero, Int.natCast_add, Int.zero_add, ints_1, ints_0, Int.one_mul] at hl
    simp (config := { maxSteps := 1000000 }) (disch := omega) only [push_cast, ↓reduceIte, Nat.reduceEqDiff, Nat.reduceAdd, Nat.reduceLT, Nat.reduceLeDiff, Nat.reduceBEq, Nat.reduceMul, Nat.reduceSub, Int.reduceToNat, Int.reduceEq, Int.reduceLT, Int.reduceLE, Int.reduceNeg, Int.reduceAdd, Int.reduceSub, Int.reduceMul, Try.f54, kr54, kp54_5, ow54_5, ty3, ty22, h3, hl]
    by_cases hE : ∀ e ∈ E, in4 e
    · rw [if_pos hE]
      by_cases hp : 4000 < pr E
      · rw [if_pos hp, if_neg (by omega)]
      · rw [if_neg hp, if_pos ⟨⟨by omega, hE⟩, by omega⟩]
    · rw [if_neg hE, if_neg (fun h => hE h.1.2)]
section
variable (base : Int) (b1 b2 : Bool) (c1 c2 : Option Nat) (E S : List Int)
theorem rl_places12 (k : Nat) (s : Int) (hk : S[k]? = some s) (out : List Int) (ho : out.length ≤ 4000) : ∀ (r : List Int) (n : Nat) (nx : List Int) (i : Int) (cp : Option Nat), out.drop n = r → nx.length + r.length ≤ 4000 →
    lp E0 pr0 35 12 ⟨[(1, .pt 0 0), (3, .sl 1 0 out.length 1 cp), (4, I k), (5, .sl 2 0 nx.length 1 none), (6, I i), (7, I n)],
        [(0, .box [I base, SL b1 c1 E.length (ints E), SL b2 c2 S.length (ints S)]), (1, .arr (ints out) 1 1), (2, .arr (ints nx) 2 1)], 3⟩ =
      some (.exit 4, ⟨[(1, .pt 0 0), (3, .sl 1 0 out.length 1 cp), (4, I k), (5, .sl 2 0 (nx ++ rowW r s i).length 1 none), (6, I i)],
        [(0, .box [I base, SL b1 c1 E.length (ints E), SL b2 c2 S.length (ints S)]), (1, .arr (ints out) 1 1), (2, .arr (ints (nx ++ rowW r s i)) 2 1)], 3⟩) := by
  intro r
  induction r with
  | nil =>
    intro n nx i cp h1 h2
    have h4 := drop_nil h1
    have h5 : ¬ (n : Int) < out.length := by omega
    rw [lp_eq lp35_12]
    simp (config := { maxSteps := 1000000 }) (disch := omega) only [push_cast, ↓reduceIte, Nat.reduceEqDiff, Nat.reduceAdd, Nat.reduceLT, Nat.reduceLeDiff, Nat.reduceBEq, Nat.reduceMul, Nat.reduceSub, Int.reduceToNat, Int.reduceEq, Int.reduceLT, Int.reduceLE, Int.reduceNeg, Int.reduceAdd, Int.reduceSub, Int.reduceMul, Try.f35, kr35, kp35_12, kp35_9, kp35_5, ow35_12, ow35_9, ow35_5, ty3, ty22, ty34, h5, rowW, List.map_nil, List.append_nil]
  | cons x r ih =>
    intro n nx i cp h1 h2
    obtain ⟨h4, h5, h6⟩ := drop_cons h1
    have h7 : (n : Int) < out.length := by omega
    have h8 : k < S.length := by rcases Nat.lt_or_ge k S.length with h' | h'; exact h'; simp [h'] at hk
    have h9 : (k : Int) < S.length := by omega
    simp only [List.length_cons] at h2
    have e : nx ++ [IntKind.i64.wrap (x + IntKind.i64.wrap (i * s))] ++ rowW r s i = nx ++ rowW (x :: r) s i := by simp [rowW]
    have ih' := ih (n + 1) (nx ++ [IntKind.i64.wrap (x + IntKind.i64.wrap (i * s))]) i cp h6 (by simp; omega)
    rw [e] at ih'
    simp only [cast1, List.length_append, List.length_cons, List.length_nil, Nat.zero_add, Nat.add_zero, Int.natCast_zero, Int.natCast_add, Int.zero_add, ints_1, ints_0, ] at ih'
    rw [lp_eq lp35_12]
    simp (config := { maxSteps := 1000000 }) (disch := omega) only [push_cast, ↓reduceIte, Nat.reduceEqDiff, Nat.reduceAdd, Nat.reduceLT, Nat.reduceLeDiff, Nat.reduceBEq, Nat.reduceMul, Nat.reduceSub, Int.reduceToNat, Int.reduceEq, Int.reduceLT, Int.reduceLE, Int.reduceNeg, Int.reduceAdd, Int.reduceSub, Int.reduceMul, Try.f35, kr35, kp35_12, kp35_9, kp35_5, ow35_12, ow35_9, ow35_5, ty3, ty22, ty34, h4, h7, h8, h9, getD_of h5, getD_of hk, ih']
theorem rl_places9 (k : Nat) (e s : Int) (he : E[k]? = some e) (hk : S[k]? = some s) (he4 : e ≤ 4000) (out : List Int) (ho : out.length ≤ 4000) : ∀ (d : Nat) (nx : List Int) (i : Nat) (cp : Option Nat), (i : Int) + d = e → nx.length + d * out.length ≤ 4000 →
    lp E0 pr0 35 9 ⟨[(1, .pt 0 0), (3, .sl 1 0 out.length 1 cp), (4, I k), (5, .sl 2 0 nx.length 1 none), (6, I i)],
        [(0, .box [I base, SL b1 c1 E.length (ints E), SL b2 c2 S.length (ints S)]), (1, .arr (ints out) 1 1), (2, .arr (ints nx) 2 1)], 3⟩ =
      some (.exit 2, ⟨[(1, .pt 0 0), (4, I k), (5, .sl 1 0 (nx ++ dimW out s d i).length 1 none)],
        [(0, .box [I base, SL b1 c1 E.length (ints E), SL b2 c2 S.length (ints S)]), (1, .arr (ints (nx ++ dimW out s d i)) 1 1)], 2⟩) := by
  intro d
  have g8 : k < E.length := by rcases Nat.lt_or_ge k E.length with h' | h'; exact h'; simp [h'] at he
  have g9 : (k : Int) < E.length := by omega
  induction d with
  | zero =>
    intro nx i cp h1 h2
    have h5 : ¬ (i : Int) < e := by omega
    rw [lp_eq lp35_9]
    simp (config := { maxSteps := 1000000 }) (disch := omega) only [push_cast, ↓reduceIte, Nat.reduceEqDiff, Nat.reduceAdd, Nat.reduceLT, Nat.reduceLeDiff, Nat.reduceBEq, Nat.reduceMul, Nat.reduceSub, Int.reduceToNat, Int.reduceEq, Int.reduceLT, Int.reduceLE, Int.reduceNeg, Int.reduceAdd, Int.reduceSub, Int.reduceMul, Try.f35, kr35, kp35_12, kp35_9, kp35_5, ow35_12, ow35_9, ow35_5, ty3, ty22, ty34, g8, g9, getD_of he, h5, dimW_zero, List.append_nil]
  | succ d ih =>
    intro nx i cp h1 h2
    have h7 : (i : Int) < e := by omega
    rw [Nat.succ_mul] at h2
    have hl := rl_places12 base b1 b2 c1 c2 E S k s hk out ho out 0 nx i cp rfl (by omega)
    have ih' := ih (nx ++ rowW out s i) (i + 1) cp (by omega) (by rw [List.length_append, rowW_length]; omega)
    have e' : nx ++ rowW out s i ++ dimW out s d ((i + 1 : Nat) : Int) = nx ++ dimW out s (d + 1) i := by rw [dimW_succ, List.append_assoc]; rfl
    rw [e'] at ih'
    simp only [cast1, List.length_append, List.length_cons, List.length_nil, Nat.zero_add, Nat.add_zero, Int.natCast_zero, Int.natCast_add, Int.zero_add, ints_1, ints_0, ] at ih' hl
    rw [lp_eq lp35_9]
    simp (config := { maxSteps := 1000000 }) (disch := omega) only [push_cast, ↓reduceIte, Nat.reduceEqDiff, Nat.reduceAdd, Nat.reduceLT, Nat.reduceLeDiff, Nat.reduceBEq, Nat.reduceMul, Nat.reduceSub, Int.reduceToNat, Int.reduceEq, Int.reduceLT, Int.reduceLE, Int.reduceNeg, Int.reduceAdd, Int.reduceSub, Int.reduceMul, Try.f35, kr35, kp35_12, kp35_9, kp35_5, ow35_12, ow35_9, ow35_5, ty3, ty22, ty34, g8, g9, getD_of he, h7, hl, ih']
theorem rl_places5 (hE : ∀ e ∈ E, 1 ≤ e ∧ e ≤ 4000) (hl : E.length ≤ 3) (hS : S.length = E.length) : ∀ (r q : List Int) (i : Nat) (out : List Int) (cp : Option Nat), E.drop i = r → S.drop i = q → (out.length : Int) * pr r ≤ 4000 →
    ∃ cp', lp E0 pr0 35 5 ⟨[(1, .pt 0 0), (3, .sl 1 0 out.length 1 cp), (4, I i)],
        [(0, .box [I base, SL b1 c1 E.length (ints E), SL b2 c2 S.length (ints S)]), (1, .arr (ints out) 1 1)], 2⟩ =
      some (.exit 0, ⟨[(3, .sl 0 0 (plcW r q out).length 1 cp')], [(0, .arr (ints (plcW r q out)) 0 1)], 1⟩) := by
  intro r
  induction r with
  | nil =>
    intro q i out cp h1 h2 h3
    have h5 := drop_nil h1
    have h6 : ¬ (i : Int) < E.length := by omega
    refine ⟨cp, ?_⟩
    rw [lp_eq lp35_5]
    simp (config := { maxSteps := 1000000 }) (disch := omega) only [push_cast, ↓reduceIte, Nat.reduceEqDiff, Nat.reduceAdd, Nat.reduceLT, Nat.reduceLeDiff, Nat.reduceBEq, Nat.reduceMul, Nat.reduceSub, Int.reduceToNat, Int.reduceEq, Int.reduceLT, Int.reduceLE, Int.reduceNeg, Int.reduceAdd, Int.reduceSub, Int.reduceMul, Try.f35, kr35, kp35_12, kp35_9, kp35_5, ow35_12, ow35_9, ow35_5, ty3, ty22, ty34, h6, plcW]
  | cons n r ih =>
    intro q i out cp h1 h2 h3
    obtain ⟨g1, g2, g3⟩ := drop_cons h1
    obtain ⟨s, q, rfl⟩ : ∃ s q', q = s :: q' := by
      cases q with
      | nil => have := drop_nil h2; omega
      | cons s q => exact ⟨s, q, rfl⟩
    obtain ⟨g4, g5, g6⟩ := drop_cons h2
    have g8 : (i : Int) < E.length := by omega
    obtain ⟨e0, e1⟩ := hE n (List.mem_of_getElem? g2)
    have hp : 1 ≤ pr r := pr_pos fun e he => (hE e (List.mem_of_mem_drop (g3 ▸ he))).1
    rw [pr, ← Int.mul_assoc] at h3
    have h5 : (out.length : Int) * n ≤ 4000 := mul_one_le (Int.mul_nonneg (by omega) (by omega)) hp h3
    have h6 : (out.length : Int) ≤ 4000 := mul_one_le (by omega) e0 h5
    have en : (n.toNat : Int) = n := by omega
    have h7 : n.toNat * out.length ≤ 4000 := by
      have : ((n.toNat * out.length : Nat) : Int) ≤ 4000 := by push_cast; rw [en, Int.mul_comm]; exact h5
      omega
    have hl := rl_places9 base b1 b2 c1 c2 E S i n s g2 g5 e1 out (by omega) n.toNat [] 0 cp (by omega) (by simpa using h7)
    obtain ⟨cp', ih'⟩ := ih q (i + 1) (dimW out s n.toNat 0) none g3 g6 (by rw [dimW_length]; push_cast; rw [en, Int.mul_comm n]; exact h3)
    rw [List.nil_append] at hl
    simp only [cast1, List.length_append, List.length_cons, List.length_nil, Nat.zero_add, Nat.add_zero, Int.natCast_zero, Int.natCast_add, Int.zero_add, ints_1, ints_0, ] at ih' hl
    refine ⟨cp', ?_⟩
    rw [lp_eq lp35_5]
    simp (config := { maxSteps := 1000000 }) (disch := omega) only [push_cast, ↓reduceIte, Nat.reduceEqDiff, Nat.reduceAdd, Nat.reduceLT, Nat.reduceLeDiff, Nat.reduceBEq, Nat.reduceMul, Nat.reduceSub, Int.reduceToNat, Int.reduceEq, Int.reduceLT, Int.reduceLE, Int.reduceNeg, Int.reduceAdd, Int.reduceSub, Int.reduceMul, Try.f35, kr35, kp35_12, kp35_9, kp35_5, ow35_12, ow35_9, ow35_5, ty3, ty22, ty34, g1, g8, getD_of g2, hl, ih', plcW]
theorem r_places (hE : exts E) (hp4 : pr E ≤ 4000) (hS : S.length = E.length) :
    CALL 35 [Dsc base b1 c1 E b2 c2 S] = some (.sl 0 0 (plcR base E S).length 1 none, [ints (plcR base E S)]) := by
  have hs := size_some ⟨hE, hp4⟩
  unfold plcR
  refine lim_run (fn := Try.f35) fn35 rfl body35 (Nat.le_of_ble_eq_true rfl) ok35 ?_
  by_cases h0 : pr E = 0
  · simp (config := { maxSteps := 1000000 }) (disch := omega) only [push_cast, ↓reduceIte, Nat.reduceEqDiff, Nat.reduceAdd, Nat.reduceLT, Nat.reduceLeDiff, Nat.reduceBEq, Nat.reduceMul, Nat.reduceSub, Int.reduceToNat, Int.reduceEq, Int.reduceLT, Int.reduceLE, Int.reduceNeg, Int.reduceAdd, Int.reduceSub, Int.reduceMul, Try.f35, kr35, kp35_12, kp35_9, kp35_5, ow35_12, ow35_9, ow35_5, ty3, ty22, ty34, r_size, hs, h0]
  · have hp := exts_pos hE h0
    obtain ⟨cp', hl⟩ := rl_places5 base b1 b2 c1 c2 E S (fun e he => ⟨hp e he, (hE.2 e he).2⟩) hE.1 hS E S 0 [base] (some 1) rfl rfl (by simp; omega)
    simp only [cast1, List.length_append, List.length_cons, List.length_nil, Nat.zero_add, Nat.add_zero, Int.natCast_zero, Int.natCast_add, Int.zero_add, ints_1, ints_0, ] at hl
    simp (config := { maxSteps := 1000000 }) (disch := omega) only [push_cast, ↓reduceIte, Nat.reduceEqDiff, Nat.reduceAdd, Nat.reduceLT, Nat.reduceLeDiff, Nat.reduceBEq, Nat.reduceMul, Nat.reduceSub, Int.reduceToNat, Int.reduceEq, Int.reduceLT, Int.reduceLE, Int.reduceNeg, Int.reduceAdd, Int.reduceSub, Int.reduceMul, Try.f35, kr35, kp35_12, kp35_9, kp35_5, ow35_12, ow35_9, ow35_5, ty3, ty22, ty34, r_size, hs, h0, hl]
theorem rl_Valid4 : ∀ (r : List Int) (i : Nat), S.drop i = r → S.length ≤ 4 →
    lp E0 pr0 34 4 ⟨[(1, .pt 0 0), (3, I i)], [(0, .box [I base, SL b1 c1 E.length (ints E), SL b2 c2 S.length (ints S)])], 1⟩ =
      if ∀ s ∈ r, nearS s then some (.exit 0, ⟨[(1, .pt 0 0)], [(0, .box [I base, SL b1 c1 E.length (ints E), SL b2 c2 S.length (ints S)])], 1⟩) else some (.ret, ⟨[(2, B false)], [], 0⟩) := by
  intro r
  induction r with
  | nil =>
    intro i h1 h2
    have h5 := drop_nil h1
    have h6 : ¬ (i : Int) < S.length := by omega
    rw [lp_eq lp34_4]
    simp (config := { maxSteps := 1000000 }) (disch := omega) only [push_cast, ↓reduceIte, Nat.reduceEqDiff, Nat.reduceAdd, Nat.reduceLT, Nat.reduceLeDiff, Nat.reduceBEq, Nat.reduceMul, Nat.reduceSub, Int.reduceToNat, Int.reduceEq, Int.reduceLT, Int.reduceLE, Int.reduceNeg, Int.reduceAdd, Int.reduceSub, Int.reduceMul, Try.f34, kr34, kp34_10, kp34_4, ow34_10, ow34_4, ty3, ty4, ty22, ty34, tb4, h6]
    simp
  | cons x r ih =>
    intro i h1 h2
    obtain ⟨g1, g2, g3⟩ := drop_cons h1
    have g8 : (i : Int) < S.length := by omega
    have ih' := ih (i + 1) g3 h2
    simp only [cast1, List.length_append, List.length_cons, List.length_nil, Nat.zero_add, Nat.add_zero, Int.natCast_zero, Int.natCast_add, Int.zero_add, ints_1, ints_0, ] at ih'
    rw [lp_eq lp34_4]
    by_cases hx : nearS x
    · simp (config := { maxSteps := 1000000 }) (disch := omega) only [push_cast, ↓reduceIte, Nat.reduceEqDiff, Nat.reduceAdd, Nat.reduceLT, Nat.reduceLeDiff, Nat.reduceBEq, Nat.reduceMul, Nat.reduceSub, Int.reduceToNat, Int.reduceEq, Int.reduceLT, Int.reduceLE, Int.reduceNeg, Int.reduceAdd, Int.reduceSub, Int.reduceMul, Try.f34, kr34, kp34_10, kp34_4, ow34_10, ow34_4, ty3, ty4, ty22, ty34, tb4, g1, g8, getD_of g2, r_near, ih', hx, List.forall_mem_cons]
    · have hn : ¬ ∀ e ∈ x :: r, nearS e := fun h => hx (h x (by simp))
      rw [if_neg hn]
      simp (config := { maxSteps := 1000000 }) (disch := omega) only [push_cast, ↓reduceIte, Nat.reduceEqDiff, Nat.reduceAdd, Nat.reduceLT, Nat.reduceLeDiff, Nat.reduceBEq, Nat.reduceMul, Nat.reduceSub, Int.reduceToNat, Int.reduceEq, Int.reduceLT, Int.reduceLE, Int.reduceNeg, Int.reduceAdd, Int.reduceSub, Int.reduceMul, Try.f34, kr34, kp34_10, kp34_4, ow34_10, ow34_4, ty3, ty4, ty22, ty34, tb4, g1, g8, getD_of g2, r_near, hx]
def inP (x : Int) : Prop := 0 ≤ x ∧ x ≤ 2147483648
instance (e : Int) : Decidable (inP e) := by unfold inP; infer_instance
theorem rl_Valid10 (L : List Int) (hL : L.length ≤ 4000) : ∀ (r : List Int) (i : Nat), L.drop i = r →
    lp E0 pr0 34 10 ⟨[(4, .sl 0 0 L.length 1 none), (5, I i)], [(0, .arr (ints L) 0 1)], 1⟩ =
      if ∀ x ∈ r, inP x then some (.exit 2, ⟨[], [], 0⟩) else some (.ret, ⟨[(2, B false)], [], 0⟩) := by
  intro r
  induction r with
  | nil =>
    intro i h1
    have h5 := drop_nil h1
    have h6 : ¬ (i : Int) < L.length := by omega
    rw [lp_eq lp34_10]
    simp (config := { maxSteps := 1000000 }) (disch := omega) only [push_cast, ↓reduceIte, Nat.reduceEqDiff, Nat.reduceAdd, Nat.reduceLT, Nat.reduceLeDiff, Nat.reduceBEq, Nat.reduceMul, Nat.reduceSub, Int.reduceToNat, Int.reduceEq, Int.reduceLT, Int.reduceLE, Int.reduceNeg, Int.reduceAdd, Int.reduceSub, Int.reduceMul, Try.f34, kr34, kp34_10, kp34_4, ow34_10, ow34_4, ty3, ty4, ty22, ty34, tb4, h6]
    simp
  | cons x r ih =>
    intro i h1
    obtain ⟨g1, g2, g3⟩ := drop_cons h1
    have g8 : (i : Int) < L.length := by omega
    have ih' := ih (i + 1) g3
    simp only [cast1, List.length_append, List.length_cons, List.length_nil, Nat.zero_add, Nat.add_zero, Int.natCast_zero, Int.natCast_add, Int.zero_add, ints_1, ints_0, ] at ih'
    rw [lp_eq lp34_10]
    by_cases hx : inP x
    · obtain ⟨e0, e1⟩ := id hx
      have e2 : ¬ x < 0 := by omega
      have e3 : ¬ 2147483648 < x := by omega
      simp (config := { maxSteps := 1000000 }) (disch := omega) only [push_cast, ↓reduceIte, Nat.reduceEqDiff, Nat.reduceAdd, Nat.reduceLT, Nat.reduceLeDiff, Nat.reduceBEq, Nat.reduceMul, Nat.reduceSub, Int.reduceToNat, Int.reduceEq, Int.reduceLT, Int.reduceLE, Int.reduceNeg, Int.reduceAdd, Int.reduceSub, Int.reduceMul, Try.f34, kr34, kp34_10, kp34_4, ow34_10, ow34_4, ty3, ty4, ty22, ty34, tb4, g1, g8, getD_of g2, e2, e3, ih', hx, List.forall_mem_cons]
    · have hn : ¬ ∀ e ∈ x :: r, inP e := fun h => hx (h x (by simp))
      rw [if_neg hn]
      by_cases e2 : x < 0
      · simp (config := { maxSteps := 1000000 }) (disch := omega) only [push_cast, ↓reduceIte, Nat.reduceEqDiff, Nat.reduceAdd, Nat.reduceLT, Nat.reduceLeDiff, Nat.reduceBEq, Nat.reduceMul, Nat.reduceSub, Int.reduceToNat, Int.reduceEq, Int.reduceLT, Int.reduceLE, Int.reduceNeg, Int.reduceAdd, Int.reduceSub, Int.reduceMul, Try.f34, kr34, kp34_10, kp34_4, ow34_10, ow34_4, ty3, ty4, ty22, ty34, tb4, g1, g8, getD_of g2, e2]
      · have e3 : 2147483648 < x := by unfold inP at hx; omega
        simp (config := { maxSteps := 1000000 }) (disch := omega) only [push_cast, ↓reduceIte, Nat.reduceEqDiff, Nat.reduceAdd, Nat.reduceLT, Nat.reduceLeDiff, Nat.reduceBEq, Nat.reduceMul, Nat.reduceSub, Int.reduceToNat, Int.reduceEq, Int.reduceLT, Int.reduceLE, Int.reduceNeg, Int.reduceAdd, Int.reduceSub, Int.reduceMul, Try.f34, kr34, kp34_10, kp34_4, ow34_10, ow34_4, ty3, ty4, ty22, ty34, tb4, g1, g8, getD_of g2, e2, e3]
theorem r_Valid (hb : base ≤ 9223372036854775807) : CALL 34 [Dsc base b1 c1 E b2 c2 S] = some (B (decide (okD base E S)), []) := by
  refine lim_run (fn := Try.f34) fn34 rfl body34 (Nat.le_of_ble_eq_true rfl) ok34 ?_
  by_cases h3 : base < 0
  · simp (config := { maxSteps := 1000000 }) (disch := omega) only [push_cast, ↓reduceIte, Nat.reduceEqDiff, Nat.reduceAdd, Nat.reduceLT, Nat.reduceLeDiff, Nat.reduceBEq, Nat.reduceMul, Nat.reduceSub, Int.reduceToNat, Int.reduceEq, Int.reduceLT, Int.reduceLE, Int.reduceNeg, Int.reduceAdd, Int.reduceSub, Int.reduceMul, Try.f34, kr34, kp34_10, kp34_4, ow34_10, ow34_4, ty3, ty4, ty22, ty34, tb4, h3]
    rw [decide_eq_false (p := okD base E S) (fun h => by have := h.2.2.2.1; omega)]
  · by_cases h2 : (S.length : Int) = E.length
    · by_cases h1 : sizeQ E < 0
      · simp (config := { maxSteps := 1000000 }) (disch := omega) only [push_cast, ↓reduceIte, Nat.reduceEqDiff, Nat.reduceAdd, Nat.reduceLT, Nat.reduceLeDiff, Nat.reduceBEq, Nat.reduceMul, Nat.reduceSub, Int.reduceToNat, Int.reduceEq, Int.reduceLT, Int.reduceLE, Int.reduceNeg, Int.reduceAdd, Int.reduceSub, Int.reduceMul, Try.f34, kr34, kp34_10, kp34_4, ow34_10, ow34_4, ty3, ty4, ty22, ty34, tb4, r_size, h1, h2, h3]
        rw [decide_eq_false (p := okD base E S) (fun h => size_none.1 h1 ⟨h.1, h.2.1⟩)]
      · have h1' : exts E ∧ pr E ≤ 4000 := Decidable.byContradiction fun hc => h1 (size_none.2 hc)
        have hS : S.length = E.length := by omega
        have hle := h1'.1.1
        have hl4 := rl_Valid4 base b1 b2 c1 c2 E S S 0 rfl (by omega)
        have hpl := r_places base b1 b2 c1 c2 E S h1'.1 h1'.2 hS
        have hlen := plcR_length (b := base) hS h1'.1
        have hl10 := rl_Valid10 (plcR base E S) (by omega) (plcR base E S) 0 rfl
        simp only [cast1, List.length_append, List.length_cons, List.length_nil, Nat.zero_add, Nat.add_zero, Int.natCast_zero, Int.natCast_add, Int.zero_add, ints_1, ints_0, ] at hl4 hl10
        by_cases h4 : ∀ s ∈ S, nearS s
        · rw [if_pos h4] at hl4
          have key := all_plcR h1'.1 hS h4 (by omega) hb
          by_cases h5 : ∀ x ∈ plcR base E S, inP x
          · rw [if_pos h5] at hl10
            simp (config := { maxSteps := 1000000 }) (disch := omega) only [push_cast, ↓reduceIte, Nat.reduceEqDiff, Nat.reduceAdd, Nat.reduceLT, Nat.reduceLeDiff, Nat.reduceBEq, Nat.reduceMul, Nat.reduceSub, Int.reduceToNat, Int.reduceEq, Int.reduceLT, Int.reduceLE, Int.reduceNeg, Int.reduceAdd, Int.reduceSub, Int.reduceMul, Try.f34, kr34, kp34_10, kp34_4, ow34_10, ow34_4, ty3, ty4, ty22, ty34, tb4, r_size, h1, h2, h3, hl4, hpl, hl10]
            rw [decide_eq_true (p := okD base E S) ⟨h1'.1, h1'.2, hS, by omega, h4, key.1 h5⟩]
          · rw [if_neg h5] at hl10
            simp (config := { maxSteps := 1000000 }) (disch := omega) only [push_cast, ↓reduceIte, Nat.reduceEqDiff, Nat.reduceAdd, Nat.reduceLT, Nat.reduceLeDiff, Nat.reduceBEq, Nat.reduceMul, Nat.reduceSub, Int.reduceToNat, Int.reduceEq, Int.reduceLT, Int.reduceLE, Int.reduceNeg, Int.reduceAdd, Int.reduceSub, Int.reduceMul, Try.f34, kr34, kp34_10, kp34_4, ow34_10, ow34_4, ty3, ty4, ty22, ty34, tb4, r_size, h1, h2, h3, hl4, hpl, hl10]
            rw [decide_eq_false (p := okD base E S) (fun h => h5 (key.2 h.2.2.2.2.2))]
        · rw [if_neg h4] at hl4
          simp (config := { maxSteps := 1000000 }) (disch := omega) only [push_cast, ↓reduceIte, Nat.reduceEqDiff, Nat.reduceAdd, Nat.reduceLT, Nat.reduceLeDiff, Nat.reduceBEq, Nat.reduceMul, Nat.reduceSub, Int.reduceToNat, Int.reduceEq, Int.reduceLT, Int.reduceLE, Int.reduceNeg, Int.reduceAdd, Int.reduceSub, Int.reduceMul, Try.f34, kr34, kp34_10, kp34_4, ow34_10, ow34_4, ty3, ty4, ty22, ty34, tb4, r_size, h1, h2, h3, hl4]
          rw [decide_eq_false (p := okD base E S) (fun h => h4 h.2.2.2.2.1)]
    · simp (config := { maxSteps := 1000000 }) (disch := omega) only [push_cast, ↓reduceIte, Nat.reduceEqDiff, Nat.reduceAdd, Nat.reduceLT, Nat.reduceLeDiff, Nat.reduceBEq, Nat.reduceMul, Nat.reduceSub, Int.reduceToNat, Int.reduceEq, Int.reduceLT, Int.reduceLE, Int.reduceNeg, Int.reduceAdd, Int.reduceSub, Int.reduceMul, Try.f34, kr34, kp34_10, kp34_4, ow34_10, ow34_4, ty3, ty4, ty22, ty34, tb4, h2, h3]
      rw [decide_eq_false (p := okD base E S) (fun h => by have := h.2.2.1; omega)]
end
theorem rl_SameInts (b1 b2 : Bool) (c1 c2 : Option Nat) (xs ys : List Int) (hl : xs.length = ys.length) (hx : (xs.length : Int) ≤ 9223372036854775806) : ∀ (r q : List Int) (i : Nat), xs.drop i = r → ys.drop i = q →
    lp E0 pr0 12 4 ⟨[(0, SL b1 c1 xs.length (ints xs)), (1, SL b2 c2 ys.length (ints ys)), (5, I i)], [], 0⟩ =
      if r = q then some (.exit 0, ⟨[], [], 0⟩) else some (.ret, ⟨[(4, B false)], [], 0⟩) := by
  intro r
  induction r with
  | nil =>
    intro q i h1 h2
    have h5 := drop_nil h1
    have h6 : ¬ (i : Int) < xs.length := by omega
    have : q = [] := by rw [← h2]; exact List.drop_eq_nil_of_le (by omega)
    subst this
    rw [lp_eq lp12_4]
    simp (config := { maxSteps := 1000000 }) (disch := omega) only [push_cast, ↓reduceIte, Nat.reduceEqDiff, Nat.reduceAdd, Nat.reduceLT, Nat.reduceLeDiff, Nat.reduceBEq, Nat.reduceMul, Nat.reduceSub, Int.reduceToNat, Int.reduceEq, Int.reduceLT, Int.reduceLE, Int.reduceNeg, Int.reduceAdd, Int.reduceSub, Int.reduceMul, Try.f12, kr12, kp12_4, ow12_4, ty3, ty4, ty22, tb4, h6]
  | cons x r ih =>
    intro q i h1 h2
    obtain ⟨g1, g2, g3⟩ := drop_cons h1
    obtain ⟨y, q, rfl⟩ : ∃ s q', q = s :: q' := by
      cases q with
      | nil => have := drop_nil h2; omega
      | cons s q => exact ⟨s, q, rfl⟩
    obtain ⟨g4, g5, g6⟩ := drop_cons h2
    have g8 : (i : Int) < xs.length := by omega
    have g9 : (i : Int) < ys.length := by omega
    have ih' := ih q (i + 1) g3 g6
    simp only [cast1, List.length_append, List.length_cons, List.length_nil, Nat.zero_add, Nat.add_zero, Int.natCast_zero, Int.natCast_add, Int.zero_add, ints_1, ints_0, ] at ih'
    rw [lp_eq lp12_4]
    by_cases hxy : x = y
    · subst hxy
      simp (config := { maxSteps := 1000000 }) (disch := omega) only [push_cast, ↓reduceIte, Nat.reduceEqDiff, Nat.reduceAdd, Nat.reduceLT, Nat.reduceLeDiff, Nat.reduceBEq, Nat.reduceMul, Nat.reduceSub, Int.reduceToNat, Int.reduceEq, Int.reduceLT, Int.reduceLE, Int.reduceNeg, Int.reduceAdd, Int.reduceSub, Int.reduceMul, Try.f12, kr12, kp12_4, ow12_4, ty3, ty4, ty22, tb4, g1, g4, g8, g9, getD_of g2, getD_of g5, ih', List.cons.injEq]
    · simp (config := { maxSteps := 1000000 }) (disch := omega) only [push_cast, ↓reduceIte, Nat.reduceEqDiff, Nat.reduceAdd, Nat.reduceLT, Nat.reduceLeDiff, Nat.reduceBEq, Nat.reduceMul, Nat.reduceSub, Int.reduceToNat, Int.reduceEq, Int.reduceLT, Int.reduceLE, Int.reduceNeg, Int.reduceAdd, Int.reduceSub, Int.reduceMul, Try.f12, kr12, kp12_4, ow12_4, ty3, ty4, ty22, tb4, g1, g4, g8, g9, getD_of g2, getD_of g5, hxy, List.cons.injEq]
theorem r_SameInts (b1 b2 : Bool) (c1 c2 : Option Nat) (xs ys : List Int) (hx : (xs.length : Int) ≤ 9223372036854775806) :
    CALL 12 [SL b1 c1 xs.length (ints xs), SL b2 c2 ys.length (ints ys)] = some (B (decide (xs = ys)), []) := by
  refine lim_run (fn := Try.f12) fn12 rfl body12 (Nat.le_of_ble_eq_true rfl) ok12 ?_
  by_cases hl : (xs.length : Int) = ys.length
  · have h := rl_SameInts b1 b2 c1 c2 xs ys (by omega) hx xs ys 0 rfl rfl
    simp only [cast1, List.length_append, List.length_cons, List.length_nil, Nat.zero_add, Nat.add_zero, Int.natCast_zero, Int.natCast_add, Int.zero_add, ints_1, ints_0, ] at h
    by_cases he : xs = ys
    · rw [if_pos he] at h
      subst he
      simp (config := { maxSteps := 1000000 }) (disch := omega) only [push_cast, ↓reduceIte, Nat.reduceEqDiff, Nat.reduceAdd, Nat.reduceLT, Nat.reduceLeDiff, Nat.reduceBEq, Nat.reduceMul, Nat.reduceSub, Int.reduceToNat, Int.reduceEq, Int.reduceLT, Int.reduceLE, Int.reduceNeg, Int.reduceAdd, Int.reduceSub, Int.reduceMul, Try.f12, kr12, kp12_4, ow12_4, ty3, ty4, ty22, tb4, hl, h]
    · rw [if_neg he] at h
      simp (config := { maxSteps := 1000000 }) (disch := omega) only [push_cast, ↓reduceIte, Nat.reduceEqDiff, Nat.reduceAdd, Nat.reduceLT, Nat.reduceLeDiff, Nat.reduceBEq, Nat.reduceMul, Nat.reduceSub, Int.reduceToNat, Int.reduceEq, Int.reduceLT, Int.reduceLE, Int.reduceNeg, Int.reduceAdd, Int.reduceSub, Int.reduceMul, Try.f12, kr12, kp12_4, ow12_4, ty3, ty4, ty22, tb4, hl, h, he]
  · have he : xs ≠ ys := fun h => hl (by rw [h])
    simp (config := { maxSteps := 1000000 }) (disch := omega) only [push_cast, ↓reduceIte, Nat.reduceEqDiff, Nat.reduceAdd, Nat.reduceLT, Nat.reduceLeDiff, Nat.reduceBEq, Nat.reduceMul, Nat.reduceSub, Int.reduceToNat, Int.reduceEq, Int.reduceLT, Int.reduceLE, Int.reduceNeg, Int.reduceAdd, Int.reduceSub, Int.reduceMul, Try.f12, kr12, kp12_4, ow12_4, ty3, ty4, ty22, tb4, hl, he]
end Go.Proofs.Ytochkebkfoophaa.Tev
