/- Where a section's elements lie: section.Places. -/
import Derived.Test.YtnbijiopcgfmfaaCSec
namespace Go.Proofs.Ytnbijiopcgfmfaa.Tev
open Go Go.RowKit Go.Proofs Go.Proofs.Ytnbijiopcgfmfaa.Q
set_option linter.unusedSectionVars false
set_option maxRecDepth 100000
set_option maxHeartbeats 0
set_option linter.unusedSimpArgs false
set_option linter.unusedVariables false
section
variable (base : Int) (b1 b2 : Bool) (c1 c2 : Option Nat) (E S : List Int)
theorem l_Places14 (n k s : Int) (i : Nat) (hi : S[i]? = some s) (row : List Int) (hr : row.length ≤ 4000) : ∀ (r : List Int) (j : Nat) (out : List Int) (cp cq : Option Nat) (gr : Nat), row.drop j = r → out.length + r.length ≤ 4000 → gr ≤ 1 →
    ∃ cp' gr', gr' ≤ 1 ∧ lp E0 pr0 22 14 ⟨[(1, .pt 0 0), (4, .sl 1 0 out.length 1 cp), (5, I i), (6, I n), (7, .sl 2 0 row.length 1 cq), (8, I k), (22, SL b1 c1 E.length (ints E)), (23, I E.length), (24, I i), (35, .sl 2 0 row.length 1 cq), (36, I row.length), (37, I j)],
        [(0, .box [I base, SL b1 c1 E.length (ints E), SL b2 c2 S.length (ints S)]), (1, .arr (ints out) 1 1), (2, .arr (ints row) 1 gr)], 3⟩ =
      some (.exit 4, ⟨[(1, .pt 0 0), (4, .sl 1 0 (out ++ rowW r s k).length 1 cp'), (5, I i), (6, I n), (7, .sl 2 0 row.length 1 cq), (8, I k), (22, SL b1 c1 E.length (ints E)), (23, I E.length), (24, I i)],
        [(0, .box [I base, SL b1 c1 E.length (ints E), SL b2 c2 S.length (ints S)]), (1, .arr (ints (out ++ rowW r s k)) 1 1), (2, .arr (ints row) 1 gr')], 3⟩) := by
  intro r
  induction r with
  | nil =>
    intro j out cp cq gr h1 h2 h3
    have h4 := drop_nil h1
    have h5 : ¬ (j : Int) < row.length := by omega
    refine ⟨cp, gr, h3, ?_⟩
    have h6 : gr = 0 ∨ gr = 1 := by omega
    rcases h6 with rfl | rfl <;> clear h3
    all_goals rw [lp_eq lp22_14]
    all_goals simp (config := { maxSteps := 1000000 }) (disch := omega) only [push_cast, ↓reduceIte, Nat.reduceEqDiff, Nat.reduceAdd, Nat.reduceLT, Nat.reduceLeDiff, Nat.reduceBEq, Nat.reduceMul, Nat.reduceSub, Int.reduceToNat, Int.reduceEq, Int.reduceLT, Int.reduceLE, Int.reduceNeg, Int.reduceAdd, Int.reduceSub, Int.reduceMul, Try.f22, kr22, kp22_14, kp22_11, kp22_7, ow22_14, ow22_11, ow22_7, ty3, ty25, ty28, ty37, h5, rowW, List.map_nil, List.append_nil]
  | cons x r ih =>
    intro j out cp cq gr h1 h2 h3
    obtain ⟨h4, h5, h6⟩ := drop_cons h1
    have h7 : (j : Int) < row.length := by omega
    have h8 : i < S.length := by rcases Nat.lt_or_ge i S.length with h' | h'; exact h'; simp [h'] at hi
    have h9 : (i : Int) < S.length := by omega
    simp only [List.length_cons] at h2
    have e : out ++ [IntKind.i64.wrap (x + IntKind.i64.wrap (k * s))] ++ rowW r s k = out ++ rowW (x :: r) s k := by simp [rowW]
    obtain ⟨cp', gr', hg, ih'⟩ := ih (j + 1) (out ++ [IntKind.i64.wrap (x + IntKind.i64.wrap (k * s))]) none cq 0 h6 (by simp; omega) (by omega)
    rw [e] at ih'
    simp only [cast1, List.length_append, List.length_cons, List.length_nil, Nat.zero_add, Nat.add_zero, Int.natCast_zero, Int.natCast_add, Int.zero_add, ints_1, ints_0, ] at ih'
    refine ⟨cp', gr', hg, ?_⟩
    have h6 : gr = 0 ∨ gr = 1 := by omega
    rcases h6 with rfl | rfl <;> clear h3
    all_goals rw [lp_eq lp22_14]
    all_goals simp (config := { maxSteps := 1000000 }) (disch := omega) only [push_cast, ↓reduceIte, Nat.reduceEqDiff, Nat.reduceAdd, Nat.reduceLT, Nat.reduceLeDiff, Nat.reduceBEq, Nat.reduceMul, Nat.reduceSub, Int.reduceToNat, Int.reduceEq, Int.reduceLT, Int.reduceLE, Int.reduceNeg, Int.reduceAdd, Int.reduceSub, Int.reduceMul, Try.f22, kr22, kp22_14, kp22_11, kp22_7, ow22_14, ow22_11, ow22_7, ty3, ty25, ty28, ty37, h4, h7, h8, h9, getD_of h5, getD_of hi, ih']
theorem dimW_all (out : List Int) (s : Int) (n : Nat) (hn : 1 ≤ n) (h : ∀ x ∈ out, -9223372036854775808 ≤ x ∧ x ≤ 9223372036854775807) : out ++ dimW out s (n - 1) 1 = dimW out s n 0 := by
  obtain ⟨m, rfl⟩ : ∃ m, n = m + 1 := ⟨n - 1, by omega⟩
  rw [dimW_succ, rowW_zero s h]; rfl
theorem l_Places11 (n s : Int) (hn : n ≤ 4000) (i : Nat) (hi : S[i]? = some s) (row : List Int) (hr : row.length ≤ 4000) : ∀ (d : Nat) (k : Nat) (out : List Int) (cp cq : Option Nat) (gr : Nat), (k : Int) + d = n → out.length + d * row.length ≤ 4000 → gr ≤ 1 →
    ∃ cp', lp E0 pr0 22 11 ⟨[(1, .pt 0 0), (4, .sl 1 0 out.length 1 cp), (5, I i), (6, I n), (7, .sl 2 0 row.length 1 cq), (8, I k), (22, SL b1 c1 E.length (ints E)), (23, I E.length), (24, I i)],
        [(0, .box [I base, SL b1 c1 E.length (ints E), SL b2 c2 S.length (ints S)]), (1, .arr (ints out) 1 1), (2, .arr (ints row) 1 gr)], 3⟩ =
      some (.exit 2, ⟨[(1, .pt 0 0), (4, .sl 1 0 (out ++ dimW row s d k).length 1 cp'), (22, SL b1 c1 E.length (ints E)), (23, I E.length), (24, I i)],
        [(0, .box [I base, SL b1 c1 E.length (ints E), SL b2 c2 S.length (ints S)]), (1, .arr (ints (out ++ dimW row s d k)) 1 1)], 2⟩) := by
  intro d
  induction d with
  | zero =>
    intro k out cp cq gr h1 h2 h3
    have h5 : ¬ (k : Int) < n := by omega
    refine ⟨cp, ?_⟩
    have h6 : gr = 0 ∨ gr = 1 := by omega
    rcases h6 with rfl | rfl <;> clear h3
    all_goals rw [lp_eq lp22_11]
    all_goals simp (config := { maxSteps := 1000000 }) (disch := omega) only [push_cast, ↓reduceIte, Nat.reduceEqDiff, Nat.reduceAdd, Nat.reduceLT, Nat.reduceLeDiff, Nat.reduceBEq, Nat.reduceMul, Nat.reduceSub, Int.reduceToNat, Int.reduceEq, Int.reduceLT, Int.reduceLE, Int.reduceNeg, Int.reduceAdd, Int.reduceSub, Int.reduceMul, Try.f22, kr22, kp22_14, kp22_11, kp22_7, ow22_14, ow22_11, ow22_7, ty3, ty25, ty28, ty37, h5, dimW_zero, List.append_nil]
  | succ d ih =>
    intro k out cp cq gr h1 h2 h3
    have h7 : (k : Int) < n := by omega
    rw [Nat.succ_mul] at h2
    obtain ⟨cp1, gr1, hg, hl⟩ := l_Places14 base b1 b2 c1 c2 E S n k s i hi row hr row 0 out cp cq gr rfl (by omega) h3
    obtain ⟨cp', ih'⟩ := ih (k + 1) (out ++ rowW row s k) cp1 cq gr1 (by omega) (by rw [List.length_append, rowW_length]; omega) hg
    have e : out ++ rowW row s k ++ dimW row s d ((k + 1 : Nat) : Int) = out ++ dimW row s (d + 1) k := by rw [dimW_succ, List.append_assoc]; rfl
    rw [e] at ih'
    simp only [cast1, List.length_append, List.length_cons, List.length_nil, Nat.zero_add, Nat.add_zero, Int.natCast_zero, Int.natCast_add, Int.zero_add, ints_1, ints_0, ] at ih' hl
    refine ⟨cp', ?_⟩
    have h6 : gr = 0 ∨ gr = 1 := by omega
    have h6' : gr1 = 0 ∨ gr1 = 1 := by omega
    rcases h6 with rfl | rfl <;> rcases h6' with rfl | rfl <;> clear h3
    all_goals rw [lp_eq lp22_11]
    all_goals simp (config := { maxSteps := 1000000 }) (disch := omega) only [push_cast, ↓reduceIte, Nat.reduceEqDiff, Nat.reduceAdd, Nat.reduceLT, Nat.reduceLeDiff, Nat.reduceBEq, Nat.reduceMul, Nat.reduceSub, Int.reduceToNat, Int.reduceEq, Int.reduceLT, Int.reduceLE, Int.reduceNeg, Int.reduceAdd, Int.reduceSub, Int.reduceMul, Try.f22, kr22, kp22_14, kp22_11, kp22_7, ow22_14, ow22_11, ow22_7, ty3, ty25, ty28, ty37, h7, hl, ih']
end
end Go.Proofs.Ytnbijiopcgfmfaa.Tev
