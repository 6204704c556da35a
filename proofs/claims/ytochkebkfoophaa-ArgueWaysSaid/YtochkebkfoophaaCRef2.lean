/- The document's Share. -/
import Derived.Test.YtochkebkfoophaaCSec3
import Derived.Test.YtochkebkfoophaaCRef
namespace Go.Proofs.Ytochkebkfoophaa.Tev
open Go Go.RowKit Go.Proofs Go.Proofs.Ytochkebkfoophaa.Q
set_option linter.unusedSectionVars false
set_option maxRecDepth 100000
set_option maxHeartbeats 0
set_option linter.unusedSimpArgs false
set_option linter.unusedVariables false
theorem rl_Share6 (b : Int) (b3 b4 : Bool) (c3 c4 : Option Nat) (E' S' l : List Int) (hl : l.length ≤ 4000) : ∀ (r : List Int) (i : Nat) (s : List (Value × C × Nat) × Nat), l.drop i = r → okB s.1 →
    lp E0 pr0 48 6 ⟨[(3, .pt 0 0), (6, .mp 1), (7, .sl 2 0 l.length 1 none), (8, I i)], [(0, .box [I b, SL b3 c3 E'.length (ints E'), SL b4 c4 S'.length (ints S')]), (1, .mp s.1 s.2), (2, .arr (ints l) 2 1)], 3⟩ =
      some (.exit 0, ⟨[(3, .pt 0 0), (6, .mp 1)], [(0, .box [I b, SL b3 c3 E'.length (ints E'), SL b4 c4 S'.length (ints S')]), (1, .mp (insAll s r).1 (insAll s r).2)], 2⟩) := by
  intro r
  induction r with
  | nil =>
    intro i s h1 hk
    have h5 := drop_nil h1
    have h6 : ¬ (i : Int) < l.length := by omega
    rw [lp_eq lp48_6]
    simp (config := { maxSteps := 1000000 }) (disch := omega) only [push_cast, ↓reduceIte, Nat.reduceEqDiff, Nat.reduceAdd, Nat.reduceLT, Nat.reduceLeDiff, Nat.reduceBEq, Nat.reduceMul, Nat.reduceSub, Int.reduceToNat, Int.reduceEq, Int.reduceLT, Int.reduceLE, Int.reduceNeg, Int.reduceAdd, Int.reduceSub, Int.reduceMul, Try.f48, kr48, kp48_11, kp48_6, ow48_11, ow48_6, ty3, ty4, ty22, ty27, ty34, ty80, tb4, h6]
    rfl
  | cons x r ih =>
    intro i s h1 hk
    obtain ⟨g1, g2, g3⟩ := drop_cons h1
    have g8 : (i : Int) < l.length := by omega
    have ih' := ih (i + 1) (insB s x) g3 (insB_ok hk x).1
    simp only [cast1, List.length_append, List.length_cons, List.length_nil, Nat.zero_add, Nat.add_zero, Int.natCast_zero, Int.natCast_add, Int.zero_add, ints_1, ints_0, insB] at ih'
    rw [lp_eq lp48_6]
    simp (config := { maxSteps := 1000000 }) (disch := omega) only [push_cast, ↓reduceIte, Nat.reduceEqDiff, Nat.reduceAdd, Nat.reduceLT, Nat.reduceLeDiff, Nat.reduceBEq, Nat.reduceMul, Nat.reduceSub, Int.reduceToNat, Int.reduceEq, Int.reduceLT, Int.reduceLE, Int.reduceNeg, Int.reduceAdd, Int.reduceSub, Int.reduceMul, Try.f48, kr48, kp48_11, kp48_6, ow48_11, ow48_6, ty3, ty4, ty22, ty27, ty34, ty80, tb4, g1, g8, getD_of g2, keyB hk, ih']
    rfl
theorem rl_Share11 (m : List Int) (hl : m.length ≤ 4000) (es : List (Value × C × Nat)) (cl : Nat) (hk : okB es) : ∀ (r : List Int) (i : Nat), m.drop i = r →
    lp E0 pr0 48 11 ⟨[(6, .mp 0), (7, .sl 1 0 m.length 1 none), (9, I i)], [(0, .mp es cl), (1, .arr (ints m) 1 1)], 2⟩ =
      if r.any (hasB es) = true then some (.ret, ⟨[(4, B true), (5, I 0)], [], 0⟩) else some (.exit 2, ⟨[], [], 0⟩) := by
  intro r
  induction r with
  | nil =>
    intro i h1
    have h5 := drop_nil h1
    have h6 : ¬ (i : Int) < m.length := by omega
    rw [lp_eq lp48_11]
    simp (config := { maxSteps := 1000000 }) (disch := omega) only [push_cast, ↓reduceIte, Nat.reduceEqDiff, Nat.reduceAdd, Nat.reduceLT, Nat.reduceLeDiff, Nat.reduceBEq, Nat.reduceMul, Nat.reduceSub, Int.reduceToNat, Int.reduceEq, Int.reduceLT, Int.reduceLE, Int.reduceNeg, Int.reduceAdd, Int.reduceSub, Int.reduceMul, Try.f48, kr48, kp48_11, kp48_6, ow48_11, ow48_6, ty3, ty4, ty22, ty27, ty34, ty80, tb4, h6, List.any_nil]
  | cons x r ih =>
    intro i h1
    obtain ⟨g1, g2, g3⟩ := drop_cons h1
    have g8 : (i : Int) < m.length := by omega
    have ih' := ih (i + 1) g3
    simp only [cast1, List.length_append, List.length_cons, List.length_nil, Nat.zero_add, Nat.add_zero, Int.natCast_zero, Int.natCast_add, Int.zero_add, ints_1, ints_0, ] at ih'
    rw [lp_eq lp48_11]
    cases hx : hasB es x with
    | true => simp (config := { maxSteps := 1000000 }) (disch := omega) only [push_cast, ↓reduceIte, Nat.reduceEqDiff, Nat.reduceAdd, Nat.reduceLT, Nat.reduceLeDiff, Nat.reduceBEq, Nat.reduceMul, Nat.reduceSub, Int.reduceToNat, Int.reduceEq, Int.reduceLT, Int.reduceLE, Int.reduceNeg, Int.reduceAdd, Int.reduceSub, Int.reduceMul, Try.f48, kr48, kp48_11, kp48_6, ow48_11, ow48_6, ty3, ty4, ty22, ty27, ty34, ty80, tb4, g1, g8, getD_of g2, keyB hk, valB hk, hx, List.any_cons]
    | false => simp (config := { maxSteps := 1000000 }) (disch := omega) only [push_cast, ↓reduceIte, Nat.reduceEqDiff, Nat.reduceAdd, Nat.reduceLT, Nat.reduceLeDiff, Nat.reduceBEq, Nat.reduceMul, Nat.reduceSub, Int.reduceToNat, Int.reduceEq, Int.reduceLT, Int.reduceLE, Int.reduceNeg, Int.reduceAdd, Int.reduceSub, Int.reduceMul, Try.f48, kr48, kp48_11, kp48_6, ow48_11, ow48_6, ty3, ty4, ty22, ty27, ty34, ty80, tb4, g1, g8, getD_of g2, keyB hk, valB hk, hx, List.any_cons, ih']
theorem r_Share (a : Int) (b1 b2 : Bool) (c1 c2 : Option Nat) (E S : List Int) (b : Int) (b3 b4 : Bool) (c3 c4 : Option Nat) (E' S' : List Int) (ha : a ≤ 9223372036854775807) (hb : b ≤ 9223372036854775807) :
    CALL 48 [Dsc a b1 c1 E b2 c2 S, Dsc b b3 c3 E' b4 c4 S'] = some (.tup [B (shareQ a E S b E' S'), I (errDD a E S b E' S')], []) := by
  have h1 := r_Valid a b1 b2 c1 c2 E S ha
  have h2 := r_Valid b b3 b4 c3 c4 E' S' hb
  unfold shareQ errDD
  refine lim_run (fn := Try.f48) fn48 rfl body48 (Nat.le_of_ble_eq_true rfl) ok48 ?_
  by_cases d1 : okD a E S
  · by_cases d2 : okD b E' S'
    · have p1 := r_places a b1 b2 c1 c2 E S d1.1 d1.2.1 d1.2.2.1
      have p2 := r_places b b3 b4 c3 c4 E' S' d2.1 d2.2.1 d2.2.2.1
      have q1 := plcR_length (b := a) d1.2.2.1 d1.1
      have q2 := plcR_length (b := b) d2.2.2.1 d2.1
      have q3 := d1.2.1
      have q4 := d2.2.1
      obtain ⟨k1, k2⟩ := insAll_ok (plcR a E S) (s := ([], 0)) okB_nil
      have hl := rl_Share6 b b3 b4 c3 c4 E' S' (plcR a E S) (by omega) (plcR a E S) 0 ([], 0) rfl okB_nil
      have hm := rl_Share11 (plcR b E' S') (by omega) _ (insAll ([], 0) (plcR a E S)).2 k1 (plcR b E' S') 0 rfl
      simp only [cast1, List.length_append, List.length_cons, List.length_nil, Nat.zero_add, Nat.add_zero, Int.natCast_zero, Int.natCast_add, Int.zero_add, ints_1, ints_0, ] at hl hm
      have e : hasB (insAll ([], 0) (plcR a E S)).1 = fun x => (plcR a E S).contains x := by
        funext y; rw [k2]; simp [hasB]
      rw [e] at hm
      have e1 : placesQ a E S = plcR a E S := if_pos d1
      have e2 : placesQ b E' S' = plcR b E' S' := if_pos d2
      rw [e1, e2]
      simp (config := { maxSteps := 1000000 }) (disch := omega) only [push_cast, ↓reduceIte, Nat.reduceEqDiff, Nat.reduceAdd, Nat.reduceLT, Nat.reduceLeDiff, Nat.reduceBEq, Nat.reduceMul, Nat.reduceSub, Int.reduceToNat, Int.reduceEq, Int.reduceLT, Int.reduceLE, Int.reduceNeg, Int.reduceAdd, Int.reduceSub, Int.reduceMul, Try.f48, kr48, kp48_11, kp48_6, ow48_11, ow48_6, ty3, ty4, ty22, ty27, ty34, ty80, tb4, h1, h2, d1, d2, p1, p2, hl, hm]
      cases (plcR b E' S').any fun x => (plcR a E S).contains x <;> rfl
    · simp (config := { maxSteps := 1000000 }) (disch := omega) only [push_cast, ↓reduceIte, Nat.reduceEqDiff, Nat.reduceAdd, Nat.reduceLT, Nat.reduceLeDiff, Nat.reduceBEq, Nat.reduceMul, Nat.reduceSub, Int.reduceToNat, Int.reduceEq, Int.reduceLT, Int.reduceLE, Int.reduceNeg, Int.reduceAdd, Int.reduceSub, Int.reduceMul, Try.f48, kr48, kp48_11, kp48_6, ow48_11, ow48_6, ty3, ty4, ty22, ty27, ty34, ty80, tb4, h1, h2, d1, d2]
  · simp (config := { maxSteps := 1000000 }) (disch := omega) only [push_cast, ↓reduceIte, Nat.reduceEqDiff, Nat.reduceAdd, Nat.reduceLT, Nat.reduceLeDiff, Nat.reduceBEq, Nat.reduceMul, Nat.reduceSub, Int.reduceToNat, Int.reduceEq, Int.reduceLT, Int.reduceLE, Int.reduceNeg, Int.reduceAdd, Int.reduceSub, Int.reduceMul, Try.f48, kr48, kp48_11, kp48_6, ow48_11, ow48_6, ty3, ty4, ty22, ty27, ty34, ty80, tb4, h1, h2, d1]
end Go.Proofs.Ytochkebkfoophaa.Tev
