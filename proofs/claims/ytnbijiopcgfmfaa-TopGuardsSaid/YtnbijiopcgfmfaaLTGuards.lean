/- The law TopGuards: what it returns for any input. -/
import Derived.Test.YtnbijiopcgfmfaaCTGuards
namespace Go.Proofs.Ytnbijiopcgfmfaa.Tev
open Go Go.RowKit Go.Proofs Go.Proofs.Ytnbijiopcgfmfaa.Q
set_option linter.unusedSectionVars false
set_option maxRecDepth 100000
set_option maxHeartbeats 0
set_option linter.unusedSimpArgs false
set_option linter.unusedVariables false
section
variable (a b lo hi st n : Int)
theorem TopGuards_in (h1 : 1 ≤ n ∧ n ≤ 400) (h2 : -500 ≤ a ∧ a ≤ 500) (h3 : -1000 ≤ b ∧ b ≤ 1000) (h4 : -1000 ≤ lo ∧ lo ≤ 1000) (h5 : -1000 ≤ hi ∧ hi ≤ 1000) (h6 : -1000 ≤ st ∧ st ≤ 1000) (h7 : st ≠ 0)
    (h8 : 1 ≤ cnt lo hi st ∧ cnt lo hi st ≤ 400) : CALL 3 [I a, I b, Tri lo hi st, I n] = some (B true, []) := by
  have n1 : near lo := by unfold near; omega
  have n2 : near hi := by unfold near; omega
  have n3 : near st := by unfold near; omega
  have hT : okT lo hi st := okT_near h7 n1 n2 n3
  have c1 := c_Count lo hi st
  rw [if_pos hT, if_pos hT] at c1
  have m1 := mul_bd (A := 500) (B := 1000) h2.1 h2.2 h4.1 h4.2
  have m2 := mul_bd (A := 500) (B := 1000) h2.1 h2.2 h6.1 h6.2
  have ha : askE lo hi st [a, b, 0, n - 1] = 0 := by
    have hA1 : allN [lo, hi, st] := fun x hx => by
      simp only [List.mem_cons, List.not_mem_nil, or_false] at hx
      rcases hx with rfl | rfl | rfl <;> assumption
    have hA2 : allN [a, b, 0, n - 1] := fun x hx => by
      simp only [List.mem_cons, List.not_mem_nil, or_false] at hx
      unfold near
      rcases hx with rfl | rfl | rfl | rfl <;> omega
    unfold askE
    rw [if_neg h7, if_pos hA1, if_pos hA2]
  obtain ⟨f, t, hq, hP⟩ := partQ_spec ha
  have c2 := c_Safe a b lo hi st 0 (n - 1) ha
  have c3 := c_First a b lo hi st 0 (n - 1)
  have c4 := c_Split a b lo hi st 0 (n - 1) f t ha hq hP
  rw [hq] at c2
  rw [if_pos ha, ha, hq] at c3
  simp only at c2 c3
  have p1 := hP.f0; have p2 := hP.tn; have p3 := hP.ft
  have x1 := c_Count (mem lo st 0 f).1 (mem lo st 0 f).2.1 (mem lo st 0 f).2.2
  have x2 := c_Count (mem lo st f t).1 (mem lo st f t).2.1 (mem lo st f t).2.2
  have x3 := c_Count (mem lo st t (cnt lo hi st)).1 (mem lo st t (cnt lo hi st)).2.1 (mem lo st t (cnt lo hi st)).2.2
  rw [if_pos (okT_mem h7 n1 n2 n3 (by omega) (by omega)), if_pos (okT_mem h7 n1 n2 n3 (by omega) (by omega)), cnt_mem (hi := hi) h7] at x1 x2 x3
  have y1 : (if f ≤ 0 then (0 : Int) else f - 0) = f := by split <;> omega
  have y2 : (if t ≤ f then (0 : Int) else t - f) = t - f := by split <;> omega
  have y3 : (if cnt lo hi st ≤ t then (0 : Int) else cnt lo hi st - t) = cnt lo hi st - t := by split <;> omega
  rw [y1] at x1
  rw [y2] at x2
  rw [y3] at x3
  have hm1 := h8.1
  have hok : okR (a * lo + b) [cnt lo hi st] [a * st] := okR_1 (by unfold near; omega) (by unfold near; omega) h8.1 h8.2
  have hpl := places_1 hok h8.1
  have hall := part_all hP h8.1
  have hpin := part_in hP h8.1
  have hcut := part_cut hP h8.1
  have hins : insideQ (a * lo + b) [cnt lo hi st] [a * st] n = decide (f = 0 ∧ t = cnt lo hi st) := by
    unfold insideQ
    rw [decide_eq_decide, hpl, hpin]
    exact ⟨fun h => h.2, fun h => ⟨hok, h⟩⟩
  have hsafe : decide (firstOf (cnt lo hi st) f t < 0) = decide (f = 0 ∧ t = cnt lo hi st) := by rw [decide_eq_decide, hall]
  rw [hsafe] at c2
  have he : errR (a * lo + b) [cnt lo hi st] [a * st] = 0 := if_pos hok
  have i1 : ∀ b1 c1 b2 c2, CALL 8 [SL b1 c1 1 [CI (cnt lo hi st)], .agg [I 0, I (a * lo + b), SL b2 c2 1 [CI (a * st)]], I n] = some (.tup [B (decide (f = 0 ∧ t = cnt lo hi st)), I 0], []) := fun b1 c1 b2 c2 => by
    have := o_Inside 0 (a * lo + b) b1 b2 c1 c2 [cnt lo hi st] [a * st] n (by simp) (by simp)
    rw [hins, he] at this
    exact this
  have i2 : ∀ b1 c1 b2 c2, CALL 10 [SL b1 c1 1 [CI (cnt lo hi st)], .agg [I 0, I (a * lo + b), SL b2 c2 1 [CI (a * st)]]] = some (.tup [.sl 0 0 (row1 (a * lo + b) (a * st) (cnt lo hi st).toNat).length 1 none, I 0], [ints (row1 (a * lo + b) (a * st) (cnt lo hi st).toNat)]) := fun b1 c1 b2 c2 => by
    have := o_Places 0 (a * lo + b) b1 b2 c1 c2 [cnt lo hi st] [a * st] (by simp) (by simp)
    rw [hpl, he] at this
    exact this
  have hlen := row1_len (a * lo + b) (a * st) (cnt lo hi st).toNat
  have hloop := tg_loop n (cnt lo hi st) f t (firstOf (cnt lo hi st) f t) f (t - f) (row1 (a * lo + b) (a * st) (cnt lo hi st).toNat) none (by rw [hlen]; omega) h8.2 h1.2 rfl (by omega) p1 p2 (fun i v hv => by
    have hi : i < (cnt lo hi st).toNat := by
      rcases Nat.lt_or_ge i (cnt lo hi st).toNat with h' | h'
      · exact h'
      · rw [List.getElem?_eq_none (by omega)] at hv; simp at hv
    rw [row1_get hi] at hv
    obtain rfl := Option.some.inj hv
    have := hP.iff i (by omega) (by omega)
    rw [val_step] at this
    exact this) rfl p3 (row1 (a * lo + b) (a * st) (cnt lo hi st).toNat) 0 rfl
  have w1 : IntKind.i64.wrap (a * lo) = a * lo := w64 (by omega) (by omega)
  have w2 : IntKind.i64.wrap (a * lo + b) = a * lo + b := w64 (by omega) (by omega)
  have w3 : IntKind.i64.wrap (a * st) = a * st := w64 (by omega) (by omega)
  have w4 : IntKind.i64.wrap (n - 1) = n - 1 := w64 (by omega) (by omega)
  have w5 : IntKind.i64.wrap (f + (t - f)) = t := by rw [show f + (t - f) = t by omega]; exact w64 (by omega) (by omega)
  have w6 : IntKind.i64.wrap (t + (cnt lo hi st - t)) = cnt lo hi st := by rw [show t + (cnt lo hi st - t) = cnt lo hi st by omega]; exact w64 (by omega) (by omega)
  have hl2 : ((row1 (a * lo + b) (a * st) (cnt lo hi st).toNat).length : Int) = cnt lo hi st := by rw [hlen]; omega
  have g1 : ¬ n < 1 := by omega
  have g2 : ¬ 400 < n := by omega
  have g3 : ¬ a < -500 := by omega
  have g4 : ¬ 500 < a := by omega
  have g5 : ¬ b < -1000 := by omega
  have g6 : ¬ 1000 < b := by omega
  have g7 : ¬ lo < -1000 := by omega
  have g8 : ¬ 1000 < lo := by omega
  have g9 : ¬ hi < -1000 := by omega
  have g10 : ¬ 1000 < hi := by omega
  have g11 : ¬ st < -1000 := by omega
  have g12 : ¬ 1000 < st := by omega
  have g13 : ¬ 400 < cnt lo hi st := by omega
  have g14 : ¬ cnt lo hi st = 0 := by omega
  simp only [memT] at c4
  simp only [cast1, List.length_append, List.length_cons, List.length_nil, Nat.zero_add, Nat.add_zero, Int.natCast_zero, Int.natCast_add, Int.zero_add, ints_1, ints_0, ] at hloop
  refine lim_run (fn := Try.f3) fn3 rfl body3 (Nat.le_of_ble_eq_true rfl) ok3 ?_
  by_cases hz : a = 0
  · subst hz
    simp (config := { maxSteps := 1000000 }) (disch := omega) only [push_cast, ↓reduceIte, Nat.reduceEqDiff, Nat.reduceAdd, Nat.reduceLT, Nat.reduceLeDiff, Nat.reduceBEq, Nat.reduceMul, Nat.reduceSub, Int.reduceToNat, Int.reduceEq, Int.reduceLT, Int.reduceLE, Int.reduceNeg, Int.reduceAdd, Int.reduceSub, Int.reduceMul, Try.f3, kr3, kp3_30, ow3_30, ty3, ty4, ty23, ty28, ty30, ty37, ty42, ty43, tb4, g1, g2, g3, g4, g5, g6, g7, g8, g9, g10, g11, g12, h7, c1, g13, g14, w1, w2, w3, w4, i1, i2, c2, c3, c4, x1, x2, x3, hl2, w5, w6, hloop, c_Awake22, ne_eq]
  · have hs : a * st ≠ 0 := fun q => by
      rcases Int.mul_eq_zero.1 q with q | q
      · exact hz q
      · exact h7 q
    have nt := near_turn h7 n1 n2 (show 0 ≤ cnt lo hi st - 1 by omega) (show cnt lo hi st - 1 < cnt lo hi st by omega)
    unfold near at nt
    have m3 := mul_bd (A := 500) (B := 1000000) h2.1 h2.2 nt.1 nt.2
    have m4 := val_last a b lo st (cnt lo hi st)
    have hcp := cnt_piece (lo := a * lo + b) (hi := 0) (st := a * st) (p := 0) (q := cnt lo hi st) hs (by omega)
    rw [Int.zero_mul, Int.add_zero, Int.sub_zero] at hcp
    have v1 : IntKind.i64.wrap (cnt lo hi st - 1) = cnt lo hi st - 1 := w64 (by omega) (by omega)
    have v2 : IntKind.i64.wrap ((cnt lo hi st - 1) * st) = (cnt lo hi st - 1) * st := w64 (by omega) (by omega)
    have v3 : IntKind.i64.wrap (lo + (cnt lo hi st - 1) * st) = lo + (cnt lo hi st - 1) * st := w64 (by omega) (by omega)
    have v4 : IntKind.i64.wrap (a * (lo + (cnt lo hi st - 1) * st)) = a * (lo + (cnt lo hi st - 1) * st) := w64 (by omega) (by omega)
    have v5 : IntKind.i64.wrap (a * (lo + (cnt lo hi st - 1) * st) + b) = a * lo + b + (cnt lo hi st - 1) * (a * st) := by rw [m4]; exact w64 (by omega) (by omega)
    have hk := fun b1 b2 b3 c1 c2 c3 => c_Cut1 b1 b2 b3 c1 c2 c3 n (a * lo + b) (a * lo + b + (cnt lo hi st - 1) * (a * st)) (a * st) h1 ⟨by omega, by omega, by omega, hs⟩ (by rw [hcp]; exact h8.1) (by rw [hcp]; omega) (by rw [hcp]; omega) (by omega)
    have hcu : cutOk n (a * lo + b) (a * lo + b + (cnt lo hi st - 1) * (a * st)) (a * st) ↔ f = 0 ∧ t = cnt lo hi st := by
      unfold cutOk; rw [hcp]; exact hcut
    have hW := fun b c => c_Whole b c [n] (by simp)
    have hoE : okE [n] := ⟨⟨by simp, fun e h => by simp at h; subst h; exact ⟨by omega, by omega⟩⟩, by simp [pr]; omega⟩
    rw [show wholeE [n] = [n] from if_pos hoE, show wholeT [n] = [1] from (if_pos hoE).trans rfl, show errE [n] = 0 from if_pos hoE] at hW
    have hW : ∀ b c, CALL 11 [SL b c 1 [CI n]] = some (.tup [.agg [I 0, .sl 0 0 1 1 none, .sl 1 0 1 1 none], I 0], [[CI n], [CI 1]]) := hW
    by_cases hft : f = 0 ∧ t = cnt lo hi st
    · have hk : ∀ b1 b2 b3 c1 c2 c3, CALL 12 [.agg [I 0, SL b1 c1 1 [CI n], SL b2 c2 1 [CI 1]], SL b3 c3 1 [.v (.bool false), CI 0, CI (a * lo + b), CI (a * lo + b + (cnt lo hi st - 1) * (a * st)), CI (a * st)]] = some ((.tup [.agg [I (a * lo + b), .sl 0 0 1 1 none, .sl 1 0 1 1 none], I 0], [[CI (cnt lo hi st)], [CI (if 1 < cnt lo hi st then a * st else 1)]])) := fun b1 b2 b3 c1 c2 c3 => by
        have := hk b1 b2 b3 c1 c2 c3
        rw [if_pos (hcu.2 hft), hcp] at this
        exact this
      rw [decide_eq_true hft] at i1 c2
      simp (config := { maxSteps := 1000000 }) (disch := omega) only [push_cast, ↓reduceIte, Nat.reduceEqDiff, Nat.reduceAdd, Nat.reduceLT, Nat.reduceLeDiff, Nat.reduceBEq, Nat.reduceMul, Nat.reduceSub, Int.reduceToNat, Int.reduceEq, Int.reduceLT, Int.reduceLE, Int.reduceNeg, Int.reduceAdd, Int.reduceSub, Int.reduceMul, Try.f3, kr3, kp3_30, ow3_30, ty3, ty4, ty23, ty28, ty30, ty37, ty42, ty43, tb4, g1, g2, g3, g4, g5, g6, g7, g8, g9, g10, g11, g12, h7, c1, g13, g14, w1, w2, w3, w4, i1, i2, c2, c3, c4, x1, x2, x3, hl2, w5, w6, hz, hloop, c_Awake22, ne_eq, v1, v2, v3, v4, v5, hW, hk]
    · have hk : ∀ b1 b2 b3 c1 c2 c3, CALL 12 [.agg [I 0, SL b1 c1 1 [CI n], SL b2 c2 1 [CI 1]], SL b3 c3 1 [.v (.bool false), CI 0, CI (a * lo + b), CI (a * lo + b + (cnt lo hi st - 1) * (a * st)), CI (a * st)]] = some ((.tup [.agg [I 0, .sl 0 0 0 1 none, .sl 1 0 0 1 none], I 92], [[], []])) := fun b1 b2 b3 c1 c2 c3 => by
        have := hk b1 b2 b3 c1 c2 c3
        rw [if_neg fun q => hft (hcu.1 q)] at this
        exact this
      rw [decide_eq_false hft] at i1 c2
      simp (config := { maxSteps := 1000000 }) (disch := omega) only [push_cast, ↓reduceIte, Nat.reduceEqDiff, Nat.reduceAdd, Nat.reduceLT, Nat.reduceLeDiff, Nat.reduceBEq, Nat.reduceMul, Nat.reduceSub, Int.reduceToNat, Int.reduceEq, Int.reduceLT, Int.reduceLE, Int.reduceNeg, Int.reduceAdd, Int.reduceSub, Int.reduceMul, Try.f3, kr3, kp3_30, ow3_30, ty3, ty4, ty23, ty28, ty30, ty37, ty42, ty43, tb4, g1, g2, g3, g4, g5, g6, g7, g8, g9, g10, g11, g12, h7, c1, g13, g14, w1, w2, w3, w4, i1, i2, c2, c3, c4, x1, x2, x3, hl2, w5, w6, hz, hloop, c_Awake22, ne_eq, v1, v2, v3, v4, v5, hW, hk]
end
end Go.Proofs.Ytnbijiopcgfmfaa.Tev
