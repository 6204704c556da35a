/- section.Cut of a whole row by one triple. -/
import Derived.Test.YtnbijiopcgfmfaaCWh
import Derived.Test.YtnbijiopcgfmfaaCCnt
namespace Go.Proofs.Ytnbijiopcgfmfaa.Tev
open Go Go.RowKit Go.Proofs Go.Proofs.Ytnbijiopcgfmfaa.Q
set_option linter.unusedSectionVars false
set_option maxRecDepth 100000
set_option maxHeartbeats 0
set_option linter.unusedSimpArgs false
set_option linter.unusedVariables false
abbrev Sub1 (lo hi st : Int) : List C := [.v (.bool false), CI 0, CI lo, CI hi, CI st]
section
variable (b1 b2 b3 : Bool) (c1 c2 c3 : Option Nat) (n lo hi st : Int)
/-- What a cut of a whole row by one triple is. -/
def cutOk : Prop := 0 ≤ mn lo (lo + (cnt lo hi st - 1) * st) ∧ mx lo (lo + (cnt lo hi st - 1) * st) ≤ n - 1
instance : Decidable (cutOk n lo hi st) := by unfold cutOk; infer_instance
theorem c_Cut1 (hn : 1 ≤ n ∧ n ≤ 400) (ht : okT lo hi st) (hc : 1 ≤ cnt lo hi st) (he : -1000000000 ≤ (cnt lo hi st - 1) * st ∧ (cnt lo hi st - 1) * st ≤ 1000000000) (hc9 : cnt lo hi st ≤ 1000000) (hl : -1000000000 ≤ lo ∧ lo ≤ 1000000000) :
    CALL 12 [.agg [I 0, SL b1 c1 1 [CI n], SL b2 c2 1 [CI 1]], SL b3 c3 1 (Sub1 lo hi st)] =
      some (if cutOk n lo hi st then (.tup [.agg [I lo, .sl 0 0 1 1 none, .sl 1 0 1 1 none], I 0], [[CI (cnt lo hi st)], [CI (if 1 < cnt lo hi st then st else 1)]]) else (.tup [.agg [I 0, .sl 0 0 0 1 none, .sl 1 0 0 1 none], I 92], [[], []])) := by
  have e1 : pr [n] = n := by simp [pr]
  have e2 : lows [n] [1] = 0 := by simp only [lows]; unfold mn; split <;> omega
  have e3 : highs [n] [1] = n - 1 := by simp only [highs]; unfold mx; split <;> omega
  have hd : okD 0 [n] [1] := by
    refine ⟨⟨by simp, fun e h => by simp at h; omega⟩, by rw [e1]; omega, rfl, by omega, fun x h => by simp at h; subst h; unfold nearS; omega, .inr ⟨by omega, by rw [e2]; omega, by rw [e3]; omega⟩⟩
  have hv : ∀ b b' c c', CALL 21 [.agg [I 0, SL b c 1 [CI n], SL b' c' 1 [CI 1]]] = some (B true, []) := fun b b' c c' => by
    have := c_Valid 0 b b' c c' [n] [1] (by simp) (by simp)
    rw [decide_eq_true hd] at this
    exact this
  have hC := c_Count lo hi st
  rw [if_pos ht, if_pos ht] at hC
  have hz : ∀ b c, CALL 42 [SL b c 1 [CI n]] = some (I n, []) := fun b c => by
    have := c_size b c [n] (by simp)
    rw [show sizeQ [n] = n by unfold sizeQ; rw [if_pos ⟨hd.1, hd.2.1⟩]; simp [pr]] at this
    exact this
  have hst : -2147483648 ≤ st ∧ st ≤ 2147483648 := ht.2.2.1
  have hcut : cutOk n lo hi st ↔ 0 ≤ mn lo (lo + (cnt lo hi st - 1) * st) ∧ mx lo (lo + (cnt lo hi st - 1) * st) ≤ n - 1 := Iff.rfl
  have w0 : IntKind.i64.wrap ((cnt lo hi st - 1) * st) = (cnt lo hi st - 1) * st := w64 (by omega) (by omega)
  have w1 : IntKind.i64.wrap (lo + (cnt lo hi st - 1) * st) = lo + (cnt lo hi st - 1) * st := w64 (by omega) (by omega)
  have w2 : IntKind.i64.wrap st = st := w64 (by omega) (by omega)
  have w3 : IntKind.i64.wrap lo = lo := w64 (by omega) (by omega)
  have h0 : 0 < cnt lo hi st := by omega
  have hn0 : ¬ n = 0 := by omega
  refine lim_run (fn := Try.f12) fn12 rfl body12 (Nat.le_of_ble_eq_true rfl) ok12 ?_
  by_cases k1 : mn lo (lo + (cnt lo hi st - 1) * st) < 0
  · rw [if_neg (show ¬ cutOk n lo hi st from fun h => by have := hcut.1 h; omega)]
    simp (config := { maxSteps := 1000000 }) (disch := omega) only [push_cast, ↓reduceIte, Nat.reduceEqDiff, Nat.reduceAdd, Nat.reduceLT, Nat.reduceLeDiff, Nat.reduceBEq, Nat.reduceMul, Nat.reduceSub, Int.reduceToNat, Int.reduceEq, Int.reduceLT, Int.reduceLE, Int.reduceNeg, Int.reduceAdd, Int.reduceSub, Int.reduceMul, Try.f12, kr12, kp12_12, kp12_4, ow12_12, ow12_4, ty3, ty4, ty23, ty25, ty28, ty37, ty42, ty43, tb4, hv, hC, fun S0 => lp_eq (S0 := S0) (pr := pr0) lp12_4, fun S0 => lp_eq (S0 := S0) (pr := pr0) lp12_12, h0, w0, w1, w2, w3, k1]
  · by_cases k2 : n - 1 < mx lo (lo + (cnt lo hi st - 1) * st)
    · rw [if_neg (show ¬ cutOk n lo hi st from fun h => by have := hcut.1 h; omega)]
      simp (config := { maxSteps := 1000000 }) (disch := omega) only [push_cast, ↓reduceIte, Nat.reduceEqDiff, Nat.reduceAdd, Nat.reduceLT, Nat.reduceLeDiff, Nat.reduceBEq, Nat.reduceMul, Nat.reduceSub, Int.reduceToNat, Int.reduceEq, Int.reduceLT, Int.reduceLE, Int.reduceNeg, Int.reduceAdd, Int.reduceSub, Int.reduceMul, Try.f12, kr12, kp12_12, kp12_4, ow12_12, ow12_4, ty3, ty4, ty23, ty25, ty28, ty37, ty42, ty43, tb4, hv, hC, fun S0 => lp_eq (S0 := S0) (pr := pr0) lp12_4, fun S0 => lp_eq (S0 := S0) (pr := pr0) lp12_12, h0, w0, w1, w2, w3, k1, k2]
    · rw [if_pos (show cutOk n lo hi st from hcut.2 ⟨by omega, by omega⟩)]
      by_cases k3 : 1 < cnt lo hi st
      · rw [if_pos k3]
        simp (config := { maxSteps := 1000000 }) (disch := omega) only [push_cast, ↓reduceIte, Nat.reduceEqDiff, Nat.reduceAdd, Nat.reduceLT, Nat.reduceLeDiff, Nat.reduceBEq, Nat.reduceMul, Nat.reduceSub, Int.reduceToNat, Int.reduceEq, Int.reduceLT, Int.reduceLE, Int.reduceNeg, Int.reduceAdd, Int.reduceSub, Int.reduceMul, Try.f12, kr12, kp12_12, kp12_4, ow12_12, ow12_4, ty3, ty4, ty23, ty25, ty28, ty37, ty42, ty43, tb4, hv, hC, fun S0 => lp_eq (S0 := S0) (pr := pr0) lp12_4, fun S0 => lp_eq (S0 := S0) (pr := pr0) lp12_12, h0, w0, w1, w2, w3, k1, k2, k3, hz, hn0, Int.mul_one, Int.one_mul, Int.zero_add]
      · rw [if_neg k3]
        simp (config := { maxSteps := 1000000 }) (disch := omega) only [push_cast, ↓reduceIte, Nat.reduceEqDiff, Nat.reduceAdd, Nat.reduceLT, Nat.reduceLeDiff, Nat.reduceBEq, Nat.reduceMul, Nat.reduceSub, Int.reduceToNat, Int.reduceEq, Int.reduceLT, Int.reduceLE, Int.reduceNeg, Int.reduceAdd, Int.reduceSub, Int.reduceMul, Try.f12, kr12, kp12_12, kp12_4, ow12_12, ow12_4, ty3, ty4, ty23, ty25, ty28, ty37, ty42, ty43, tb4, hv, hC, fun S0 => lp_eq (S0 := S0) (pr := pr0) lp12_4, fun S0 => lp_eq (S0 := S0) (pr := pr0) lp12_12, h0, w0, w1, w2, w3, k1, k2, k3, hz, hn0, Int.mul_one, Int.one_mul, Int.zero_add]
end
end Go.Proofs.Ytnbijiopcgfmfaa.Tev
