/- The document's Twice. -/
import Derived.Test.YtochkebkfoophaaTevPr
namespace Go.Proofs.Ytochkebkfoophaa.Tev
open Go Go.RowKit Go.Proofs Go.Proofs.Ytochkebkfoophaa.Q
set_option linter.unusedSectionVars false
set_option maxRecDepth 100000
set_option maxHeartbeats 0
set_option linter.unusedSimpArgs false
set_option linter.unusedVariables false
/-- Whether one comes that was there before. -/
def dupF : List (Value × C × Nat) × Nat → List Int → Bool
  | _, [] => false
  | s, x :: r => if hasB s.1 x = true then true else dupF (insB s x) r
theorem dupF_iff : ∀ (r : List Int) (s : List (Value × C × Nat) × Nat), okB s.1 → (dupF s r = true ↔ ¬ (r.Nodup ∧ ∀ x ∈ r, hasB s.1 x = false))
  | [], s, _ => by simp [dupF]
  | x :: r, s, h => by
    obtain ⟨h1, h2⟩ := insB_ok h x
    have ih := dupF_iff r (insB s x) h1
    unfold dupF
    by_cases hx : hasB s.1 x = true
    · rw [if_pos hx]
      simp only [true_iff]
      rintro ⟨_, h3⟩
      have := h3 x (by simp)
      rw [hx] at this; simp at this
    · rw [if_neg hx, ih]
      refine not_congr ?_
      have hx' := Bool.eq_false_iff.2 hx
      simp only [List.nodup_cons, List.mem_cons, forall_eq_or_imp, hx', true_and]
      constructor
      · rintro ⟨a, b⟩
        refine ⟨⟨fun hm => ?_, a⟩, fun y hy => ?_⟩
        · have := b x hm; rw [h2] at this; simp at this
        · have := b y hy; rw [h2] at this; simp only [Bool.or_eq_false_iff] at this; exact this.1
      · rintro ⟨⟨a, b⟩, d⟩
        refine ⟨b, fun y hy => ?_⟩
        rw [h2, d y hy, Bool.false_or, decide_eq_false_iff_not]
        rintro rfl
        exact a hy
theorem rl_Twice3 (b : Bool) (cap : Option Nat) (l : List Int) (hl : (l.length : Int) ≤ 9223372036854775806) : ∀ (r : List Int) (i : Nat) (s : List (Value × C × Nat) × Nat), l.drop i = r → okB s.1 →
    lp E0 pr0 49 3 ⟨[(0, SL b cap l.length (ints l)), (3, .mp 0), (4, I i)], [(0, .mp s.1 s.2)], 1⟩ =
      if dupF s r = true then some (.ret, ⟨[(2, B true)], [], 0⟩) else some (.exit 0, ⟨[], [], 0⟩) := by
  intro r
  induction r with
  | nil =>
    intro i s h1 hk
    have h5 := drop_nil h1
    have h6 : ¬ (i : Int) < l.length := by omega
    rw [lp_eq lp49_3]
    simp (config := { maxSteps := 1000000 }) (disch := omega) only [push_cast, ↓reduceIte, Nat.reduceEqDiff, Nat.reduceAdd, Nat.reduceLT, Nat.reduceLeDiff, Nat.reduceBEq, Nat.reduceMul, Nat.reduceSub, Int.reduceToNat, Int.reduceEq, Int.reduceLT, Int.reduceLE, Int.reduceNeg, Int.reduceAdd, Int.reduceSub, Int.reduceMul, Try.f49, kr49, kp49_3, ow49_3, ty3, ty4, ty22, ty80, tb4, h6, dupF]
  | cons x r ih =>
    intro i s h1 hk
    obtain ⟨g1, g2, g3⟩ := drop_cons h1
    have g8 : (i : Int) < l.length := by omega
    have ih' := ih (i + 1) (insB s x) g3 (insB_ok hk x).1
    rw [lp_eq lp49_3]
    unfold dupF
    cases hx : hasB s.1 x with
    | true => simp (config := { maxSteps := 1000000 }) (disch := omega) only [push_cast, ↓reduceIte, Nat.reduceEqDiff, Nat.reduceAdd, Nat.reduceLT, Nat.reduceLeDiff, Nat.reduceBEq, Nat.reduceMul, Nat.reduceSub, Int.reduceToNat, Int.reduceEq, Int.reduceLT, Int.reduceLE, Int.reduceNeg, Int.reduceAdd, Int.reduceSub, Int.reduceMul, Try.f49, kr49, kp49_3, ow49_3, ty3, ty4, ty22, ty80, tb4, g1, g8, getD_of g2, keyB hk, valB hk, hx]
    | false =>
      generalize hd : dupF (insB s x) r = d at ih' ⊢
      simp only [cast1, List.length_append, List.length_cons, List.length_nil, Nat.zero_add, Nat.add_zero, Int.natCast_zero, Int.natCast_add, Int.zero_add, ints_1, ints_0, insB] at ih'
      simp (config := { maxSteps := 1000000 }) (disch := omega) only [push_cast, ↓reduceIte, Nat.reduceEqDiff, Nat.reduceAdd, Nat.reduceLT, Nat.reduceLeDiff, Nat.reduceBEq, Nat.reduceMul, Nat.reduceSub, Int.reduceToNat, Int.reduceEq, Int.reduceLT, Int.reduceLE, Int.reduceNeg, Int.reduceAdd, Int.reduceSub, Int.reduceMul, Try.f49, kr49, kp49_3, ow49_3, ty3, ty4, ty22, ty80, tb4, g1, g8, getD_of g2, keyB hk, valB hk, hx, ih']
theorem r_Twice (b : Bool) (cap : Option Nat) (l : List Int) (hl : (l.length : Int) ≤ 9223372036854775806) : CALL 49 [SL b cap l.length (ints l)] = some (B (decide (¬ l.Nodup)), []) := by
  have h := rl_Twice3 b cap l hl l 0 ([], 0) rfl (fun e he => by simp at he)
  have hi := dupF_iff l ([], 0) (fun e he => by simp at he)
  simp only [cast1, List.length_append, List.length_cons, List.length_nil, Nat.zero_add, Nat.add_zero, Int.natCast_zero, Int.natCast_add, Int.zero_add, ints_1, ints_0, ] at h
  refine lim_run (fn := Try.f49) fn49 rfl body49 (Nat.le_of_ble_eq_true rfl) ok49 ?_
  cases hd : dupF ([], 0) l with
  | true =>
    rw [hd] at h hi
    have hn : ¬ l.Nodup := fun q => hi.1 rfl ⟨q, fun x _ => rfl⟩
    simp (config := { maxSteps := 1000000 }) (disch := omega) only [push_cast, ↓reduceIte, Nat.reduceEqDiff, Nat.reduceAdd, Nat.reduceLT, Nat.reduceLeDiff, Nat.reduceBEq, Nat.reduceMul, Nat.reduceSub, Int.reduceToNat, Int.reduceEq, Int.reduceLT, Int.reduceLE, Int.reduceNeg, Int.reduceAdd, Int.reduceSub, Int.reduceMul, Try.f49, kr49, kp49_3, ow49_3, ty3, ty4, ty22, ty80, tb4, h, hn]
  | false =>
    rw [hd] at h hi
    have hn : l.Nodup := Decidable.byContradiction fun q => by simpa using hi.2 fun z => q z.1
    simp (config := { maxSteps := 1000000 }) (disch := omega) only [push_cast, ↓reduceIte, Nat.reduceEqDiff, Nat.reduceAdd, Nat.reduceLT, Nat.reduceLeDiff, Nat.reduceBEq, Nat.reduceMul, Nat.reduceSub, Int.reduceToNat, Int.reduceEq, Int.reduceLT, Int.reduceLE, Int.reduceNeg, Int.reduceAdd, Int.reduceSub, Int.reduceMul, Try.f49, kr49, kp49_3, ow49_3, ty3, ty4, ty22, ty80, tb4, h, hn]
end Go.Proofs.Ytochkebkfoophaa.Tev
