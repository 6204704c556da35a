/- A nest's error, as both reckon it. -/
import Derived.Test.YtopnopepcpepbaaC22b
namespace Go.Proofs.Ytopnopepcpepbaa.Tev
open Go Go.RowKit Go.Proofs Go.Proofs.Ytopnopepcpepbaa.Q
set_option linter.unusedSectionVars false
set_option maxRecDepth 100000
set_option maxHeartbeats 0
set_option linter.unusedSimpArgs false
set_option linter.unusedVariables false
abbrev TriP := Int × Int × Int
def triC (t : TriP) : List C := [CI t.1, CI t.2.1, CI t.2.2]
theorem triC_len (t : TriP) : (triC t).length = 3 := rfl
abbrev TrsT (b : Bool) (c : Option Nat) (l : List TriP) : T := SL b c l.length (l.flatMap triC)
section
variable {l : List TriP} {i : Nat} {t : TriP}
theorem tr0 (h : l[i]? = some t) : (l.flatMap triC)[i * 3]? = some (CI t.1) := flat_get triC_len h 0 (by decide)
theorem tr1 (h : l[i]? = some t) : (l.flatMap triC)[i * 3 + 1]? = some (CI t.2.1) := flat_get triC_len h 1 (by decide)
theorem tr2 (h : l[i]? = some t) : (l.flatMap triC)[i * 3 + 2]? = some (CI t.2.2) := flat_get triC_len h 2 (by decide)
end
def nearT (t : TriP) : Prop := near t.1 ∧ near t.2.1 ∧ near t.2.2
instance (t : TriP) : Decidable (nearT t) := by unfold nearT; infer_instance
def cntT (t : TriP) : Int := cnt t.1 t.2.1 t.2.2
/-- How many turns a nest has. -/
def prodT : List TriP → Int
  | [] => 1
  | t :: r => cntT t * prodT r
def nestE (l : List TriP) (a : List Int) (b low high : Int) : Int :=
  if ∃ t ∈ l, t.2.2 = 0 then 90
  else if (1 ≤ l.length ∧ l.length ≤ 3 ∧ a.length = l.length ∧ allN [b, low, high] ∧ allN a) ∧ (∀ t ∈ l, nearT t) ∧ prodT l ≤ 2000 then 0 else 2
theorem nestE_ok {l : List TriP} {a : List Int} {b low high : Int} (h : nestE l a b low high = 0) :
    (∀ t ∈ l, t.2.2 ≠ 0) ∧ (1 ≤ l.length ∧ l.length ≤ 3 ∧ a.length = l.length ∧ allN [b, low, high] ∧ allN a) ∧ (∀ t ∈ l, nearT t) ∧ prodT l ≤ 2000 := by
  unfold nestE at h
  by_cases h0 : ∃ t ∈ l, t.2.2 = 0
  · rw [if_pos h0] at h; omega
  · rw [if_neg h0] at h
    refine ⟨fun t ht hz => h0 ⟨t, ht, hz⟩, ?_⟩
    by_cases h1 : (1 ≤ l.length ∧ l.length ≤ 3 ∧ a.length = l.length ∧ allN [b, low, high] ∧ allN a) ∧ (∀ t ∈ l, nearT t) ∧ prodT l ≤ 2000
    · exact h1
    · rw [if_neg h1] at h; omega
section
variable (q : Bool) (c : Option Nat) (l : List TriP) (b : Bool) (ca : Option Nat) (a : List Int) (x low high : Int)
theorem rl_nested2 (hl : (l.length : Int) ≤ 9223372036854775806) : ∀ (r : List TriP) (i : Nat), l.drop i = r →
    lp E0 pr0 40 2 ⟨[(0, TrsT q c l), (1, SL b ca a.length (ints a)), (2, I x), (3, I low), (4, I high), (11, I i)], [], 0⟩ =
      if ∃ t ∈ r, t.2.2 = 0 then some (.ret, ⟨[(10, I 90)], [], 0⟩) else some (.exit 0, ⟨[(0, TrsT q c l), (1, SL b ca a.length (ints a)), (2, I x), (3, I low), (4, I high)], [], 0⟩) := by
  intro r
  induction r with
  | nil =>
    intro i h1
    have h5 := drop_nil h1
    have h6 : ¬ (i : Int) < l.length := by omega
    rw [if_neg (show ¬ ∃ t ∈ ([] : List TriP), t.2.2 = 0 from fun ⟨t, ht, _⟩ => by simp at ht)]
    rw [lp_eq lp40_2]
    simp (config := { maxSteps := 1000000 }) (disch := omega) only [push_cast, ↓reduceIte, Nat.reduceEqDiff, Nat.reduceAdd, Nat.reduceLT, Nat.reduceLeDiff, Nat.reduceBEq, Nat.reduceMul, Nat.reduceSub, Int.reduceToNat, Int.reduceEq, Int.reduceLT, Int.reduceLE, Int.reduceNeg, Int.reduceAdd, Int.reduceSub, Int.reduceMul, Try.f40, kr40, kp40_11, kp40_2, ow40_11, ow40_2, ty3, ty25, ty26, ty41, ty45, h6]
  | cons t r ih =>
    intro i h1
    obtain ⟨g1, g2, g3⟩ := drop_cons h1
    have g8 : (i : Int) < l.length := by omega
    have ih' := ih (i + 1) g3
    simp only [cast1, List.length_append, List.length_cons, List.length_nil, Nat.zero_add, Nat.add_zero, Int.natCast_zero, Int.natCast_add, Int.zero_add, ints_1, ints_0, ] at ih'
    rw [lp_eq lp40_2]
    by_cases h0 : t.2.2 = 0
    · rw [if_pos (show ∃ u ∈ t :: r, u.2.2 = 0 from ⟨t, by simp, h0⟩)]
      simp (config := { maxSteps := 1000000 }) (disch := omega) only [push_cast, ↓reduceIte, Nat.reduceEqDiff, Nat.reduceAdd, Nat.reduceLT, Nat.reduceLeDiff, Nat.reduceBEq, Nat.reduceMul, Nat.reduceSub, Int.reduceToNat, Int.reduceEq, Int.reduceLT, Int.reduceLE, Int.reduceNeg, Int.reduceAdd, Int.reduceSub, Int.reduceMul, Try.f40, kr40, kp40_11, kp40_2, ow40_11, ow40_2, ty3, ty25, ty26, ty41, ty45, g1, g8, tr0 g2, tr1 g2, tr2 g2, h0]
    · by_cases h2 : ∃ u ∈ r, u.2.2 = 0
      · obtain ⟨u, hu, hz⟩ := id h2
        rw [if_pos h2] at ih'
        rw [if_pos (show ∃ u ∈ t :: r, u.2.2 = 0 from ⟨u, by simp [hu], hz⟩)]
        simp (config := { maxSteps := 1000000 }) (disch := omega) only [push_cast, ↓reduceIte, Nat.reduceEqDiff, Nat.reduceAdd, Nat.reduceLT, Nat.reduceLeDiff, Nat.reduceBEq, Nat.reduceMul, Nat.reduceSub, Int.reduceToNat, Int.reduceEq, Int.reduceLT, Int.reduceLE, Int.reduceNeg, Int.reduceAdd, Int.reduceSub, Int.reduceMul, Try.f40, kr40, kp40_11, kp40_2, ow40_11, ow40_2, ty3, ty25, ty26, ty41, ty45, g1, g8, tr0 g2, tr1 g2, tr2 g2, h0, ih']
      · rw [if_neg h2] at ih'
        rw [if_neg (show ¬ ∃ u ∈ t :: r, u.2.2 = 0 from fun ⟨u, hu, hz⟩ => by
          rcases List.mem_cons.1 hu with rfl | hu
          · exact h0 hz
          · exact h2 ⟨u, hu, hz⟩)]
        simp (config := { maxSteps := 1000000 }) (disch := omega) only [push_cast, ↓reduceIte, Nat.reduceEqDiff, Nat.reduceAdd, Nat.reduceLT, Nat.reduceLeDiff, Nat.reduceBEq, Nat.reduceMul, Nat.reduceSub, Int.reduceToNat, Int.reduceEq, Int.reduceLT, Int.reduceLE, Int.reduceNeg, Int.reduceAdd, Int.reduceSub, Int.reduceMul, Try.f40, kr40, kp40_11, kp40_2, ow40_11, ow40_2, ty3, ty25, ty26, ty41, ty45, g1, g8, tr0 g2, tr1 g2, tr2 g2, h0, ih']
theorem cntT_bd {t : TriP} (h0 : t.2.2 ≠ 0) (h : nearT t) : 0 ≤ cntT t ∧ cntT t ≤ 2000001 := cnt_near h0 h.1 h.2.1
/-- The product that the document keeps: no turns count for one. -/
def prod1 : List TriP → Int
  | [] => 1
  | t :: r => mx (cntT t) 1 * prod1 r
def noneT (l : List TriP) : Bool := l.any fun t => decide (cntT t = 0)
def P3 : Nat → Int
  | 0 => 1
  | 1 => 2000001
  | 2 => 4000004000001
  | _ => 8000012000006000001
theorem P3_step {n : Nat} {x y : Int} (hn : n < 3) (h0 : 0 ≤ x) (h1 : x ≤ P3 n) (y0 : 0 ≤ y) (y1 : y ≤ 2000001) : 0 ≤ x * y ∧ x * y ≤ P3 (n + 1) := by
  refine ⟨Int.mul_nonneg h0 y0, ?_⟩
  have hm : x * y ≤ P3 n * 2000001 := Int.mul_le_mul h1 y1 y0 (by unfold P3; split <;> omega)
  have : n = 0 ∨ n = 1 ∨ n = 2 := by omega
  rcases this with rfl | rfl | rfl <;> simp only [P3] at hm ⊢ <;> omega
theorem P3_le (n : Nat) : P3 n ≤ 8000012000006000001 := by unfold P3; split <;> omega
theorem rl_nested11 (hl : l.length ≤ 3) (hz : ∀ t ∈ l, t.2.2 ≠ 0) : ∀ (r : List TriP) (i : Nat) (n : Int) (no : Bool), l.drop i = r → 0 ≤ n → n ≤ P3 i →
    lp E0 pr0 40 11 ⟨[(0, TrsT q c l), (12, I n), (13, B no), (14, I i)], [], 0⟩ =
      if ∀ t ∈ r, nearT t then some (.exit 2, ⟨[(12, I (n * prod1 r)), (13, B (no || noneT r))], [], 0⟩) else some (.ret, ⟨[(10, I 2)], [], 0⟩) := by
  intro r
  induction r with
  | nil =>
    intro i n no h1 h2 h3
    have h5 := drop_nil h1
    have h6 : ¬ (i : Int) < l.length := by omega
    rw [if_pos (show ∀ t ∈ ([] : List TriP), nearT t from fun t ht => by simp at ht)]
    rw [lp_eq lp40_11]
    simp (config := { maxSteps := 1000000 }) (disch := omega) only [push_cast, ↓reduceIte, Nat.reduceEqDiff, Nat.reduceAdd, Nat.reduceLT, Nat.reduceLeDiff, Nat.reduceBEq, Nat.reduceMul, Nat.reduceSub, Int.reduceToNat, Int.reduceEq, Int.reduceLT, Int.reduceLE, Int.reduceNeg, Int.reduceAdd, Int.reduceSub, Int.reduceMul, Try.f40, kr40, kp40_11, kp40_2, ow40_11, ow40_2, ty3, ty25, ty26, ty41, ty45, h6, prod1, Int.mul_one]
    simp [noneT]
  | cons t r ih =>
    intro i n no h1 h2 h3
    obtain ⟨g1, g2, g3⟩ := drop_cons h1
    have g8 : (i : Int) < l.length := by omega
    have hn := fun cap => r_near false cap [t.1, t.2.1, t.2.2] (by show (3 : Int) ≤ _; omega)
    simp only [ints_3, List.length_cons, List.length_nil, Nat.zero_add, Nat.reduceAdd] at hn
    have e : allN [t.1, t.2.1, t.2.2] ↔ nearT t := by unfold allN nearT; simp
    rw [lp_eq lp40_11]
    by_cases hx : nearT t
    · have h0 := hz t (List.mem_of_getElem? g2)
      have ht := r_turns t.1 t.2.1 t.2.2 h0 hx.1 hx.2.1 hx.2.2
      obtain ⟨b0, b1⟩ := cntT_bd h0 hx
      have m1 : 0 ≤ mx (cntT t) 1 := by unfold mx; split <;> omega
      have m2 : mx (cntT t) 1 ≤ 2000001 := by unfold mx; split <;> omega
      obtain ⟨p0, p1⟩ := P3_step (n := i) (by omega) h2 h3 m1 m2
      have p2 := P3_le (i + 1)
      have ih' := ih (i + 1) (n * mx (cntT t) 1) (no || decide (cntT t = 0)) g3 p0 p1
      simp only [cast1, List.length_append, List.length_cons, List.length_nil, Nat.zero_add, Nat.add_zero, Int.natCast_zero, Int.natCast_add, Int.zero_add, ints_1, ints_0, ] at ih'
      change CALL _ _ = some (I (cntT t), []) at ht
      rw [decide_eq_true (e.2 hx)] at hn
      have eP : n * mx (cntT t) 1 * prod1 r = n * prod1 (t :: r) := by rw [prod1, Int.mul_assoc]
      have eN : (no || decide (cntT t = 0) || noneT r) = (no || noneT (t :: r)) := by unfold noneT; rw [List.any_cons, Bool.or_assoc]
      have eI : (if ∀ u ∈ t :: r, nearT u then some (Ex.exit 2, (⟨[(12, I (n * prod1 (t :: r))), (13, B (no || noneT (t :: r)))], [], 0⟩ : St)) else some (Ex.ret, ⟨[(10, I 2)], [], 0⟩)) =
          if ∀ u ∈ r, nearT u then some (Ex.exit 2, ⟨[(12, I (n * prod1 (t :: r))), (13, B (no || noneT (t :: r)))], [], 0⟩) else some (Ex.ret, ⟨[(10, I 2)], [], 0⟩) := by
        by_cases hr : ∀ u ∈ r, nearT u
        · rw [if_pos hr, if_pos (fun u hu => by rcases List.mem_cons.1 hu with rfl | hu; exact hx; exact hr u hu)]
        · rw [if_neg hr, if_neg fun h => hr fun u hu => h u (by simp [hu])]
      rw [eP, eN] at ih'
      rw [eI]
      cases no with
      | true =>
        simp only [Bool.true_or] at ih' ⊢
        by_cases hc : cntT t = 0
        · rw [hc] at ih' p0 p1
          simp (config := { maxSteps := 1000000 }) (disch := omega) only [push_cast, ↓reduceIte, Nat.reduceEqDiff, Nat.reduceAdd, Nat.reduceLT, Nat.reduceLeDiff, Nat.reduceBEq, Nat.reduceMul, Nat.reduceSub, Int.reduceToNat, Int.reduceEq, Int.reduceLT, Int.reduceLE, Int.reduceNeg, Int.reduceAdd, Int.reduceSub, Int.reduceMul, Try.f40, kr40, kp40_11, kp40_2, ow40_11, ow40_2, ty3, ty25, ty26, ty41, ty45, g1, g8, tr0 g2, tr1 g2, tr2 g2, hn, ht, hc, ih']
        · simp (config := { maxSteps := 1000000 }) (disch := omega) only [push_cast, ↓reduceIte, Nat.reduceEqDiff, Nat.reduceAdd, Nat.reduceLT, Nat.reduceLeDiff, Nat.reduceBEq, Nat.reduceMul, Nat.reduceSub, Int.reduceToNat, Int.reduceEq, Int.reduceLT, Int.reduceLE, Int.reduceNeg, Int.reduceAdd, Int.reduceSub, Int.reduceMul, Try.f40, kr40, kp40_11, kp40_2, ow40_11, ow40_2, ty3, ty25, ty26, ty41, ty45, g1, g8, tr0 g2, tr1 g2, tr2 g2, hn, ht, hc, ih']
      | false =>
        simp only [Bool.false_or] at ih' ⊢
        by_cases hc : cntT t = 0
        · rw [decide_eq_true hc] at ih'
          rw [hc] at ih' p0 p1
          simp (config := { maxSteps := 1000000 }) (disch := omega) only [push_cast, ↓reduceIte, Nat.reduceEqDiff, Nat.reduceAdd, Nat.reduceLT, Nat.reduceLeDiff, Nat.reduceBEq, Nat.reduceMul, Nat.reduceSub, Int.reduceToNat, Int.reduceEq, Int.reduceLT, Int.reduceLE, Int.reduceNeg, Int.reduceAdd, Int.reduceSub, Int.reduceMul, Try.f40, kr40, kp40_11, kp40_2, ow40_11, ow40_2, ty3, ty25, ty26, ty41, ty45, g1, g8, tr0 g2, tr1 g2, tr2 g2, hn, ht, hc, ih']
        · rw [decide_eq_false hc] at ih'
          simp (config := { maxSteps := 1000000 }) (disch := omega) only [push_cast, ↓reduceIte, Nat.reduceEqDiff, Nat.reduceAdd, Nat.reduceLT, Nat.reduceLeDiff, Nat.reduceBEq, Nat.reduceMul, Nat.reduceSub, Int.reduceToNat, Int.reduceEq, Int.reduceLT, Int.reduceLE, Int.reduceNeg, Int.reduceAdd, Int.reduceSub, Int.reduceMul, Try.f40, kr40, kp40_11, kp40_2, ow40_11, ow40_2, ty3, ty25, ty26, ty41, ty45, g1, g8, tr0 g2, tr1 g2, tr2 g2, hn, ht, hc, ih']
    · rw [decide_eq_false (fun h => hx (e.1 h))] at hn
      rw [if_neg fun h => hx (h t (by simp))]
      simp (config := { maxSteps := 1000000 }) (disch := omega) only [push_cast, ↓reduceIte, Nat.reduceEqDiff, Nat.reduceAdd, Nat.reduceLT, Nat.reduceLeDiff, Nat.reduceBEq, Nat.reduceMul, Nat.reduceSub, Int.reduceToNat, Int.reduceEq, Int.reduceLT, Int.reduceLE, Int.reduceNeg, Int.reduceAdd, Int.reduceSub, Int.reduceMul, Try.f40, kr40, kp40_11, kp40_2, ow40_11, ow40_2, ty3, ty25, ty26, ty41, ty45, g1, g8, tr0 g2, tr1 g2, tr2 g2, hn]
end
end Go.Proofs.Ytopnopepcpepbaa.Tev
