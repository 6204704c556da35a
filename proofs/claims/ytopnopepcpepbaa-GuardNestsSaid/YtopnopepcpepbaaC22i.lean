/- guard.FirstNest: the variables of one turn. -/
import Derived.Test.YtopnopepcpepbaaC22h
namespace Go.Proofs.Ytopnopepcpepbaa.Tev
open Go Go.RowKit Go.Proofs Go.Proofs.Ytopnopepcpepbaa.Q
set_option linter.unusedSectionVars false
set_option maxRecDepth 100000
set_option maxHeartbeats 0
set_option linter.unusedSimpArgs false
set_option linter.unusedVariables false
theorem varsN_len : ∀ (r : List TriP) (n : Int), (varsN r n).1.length = r.length
  | [], _ => rfl
  | t :: r, n => by
    show ((t.1 + Int.tmod (varsN r n).2 (cntT t) * t.2.2) :: (varsN r n).1).length = _
    rw [List.length_cons, varsN_len r n, List.length_cons]
theorem zset (k : Nat) (v : Int) (w : List Int) : (List.replicate (k + 1) (0 : Int) ++ w).set k v = List.replicate k 0 ++ v :: w := by
  rw [List.replicate_succ', List.append_assoc, List.set_append_right _ _ (by simp)]
  simp
section
variable (q : Bool) (c : Option Nat) (l : List TriP) (b : Bool) (ca : Option Nat) (a : List Int) (x low high : Int)
theorem varsN_bd : ∀ (r : List TriP) (n : Int), 0 ≤ n → 0 ≤ (varsN r n).2 ∧ (varsN r n).2 ≤ n
  | [], n, h => ⟨h, by show n ≤ n; omega⟩
  | t :: r, n, h => by
    obtain ⟨h1, h2⟩ := varsN_bd r n h
    have h3 : 0 ≤ cntT t := cnt_nonneg _ _ _
    show 0 ≤ Int.tdiv (varsN r n).2 (cntT t) ∧ Int.tdiv (varsN r n).2 (cntT t) ≤ n
    rw [Int.tdiv_eq_ediv_of_nonneg h1]
    exact ⟨Int.ediv_nonneg h1 h3, Int.le_trans (Int.ediv_le_self _ h1) h2⟩
theorem l_FirstNest16 (hl : l.length ≤ 3) (hal : a.length = l.length) (hz : ∀ t ∈ l, t.2.2 ≠ 0) (hn : ∀ t ∈ l, nearT t) (ha : allN a) (hno : ∀ t ∈ l, ¬ cntT t = 0) (m0 m1 n : Int) (cp : Option Nat) (n0 : 0 ≤ n) (n1 : n ≤ 2000) : ∀ (k : Nat), k ≤ l.length →
    -1000000 - 1000000000000 * ((l.length : Int) - k) ≤ x + sumN (a.drop k) (varsN (l.drop k) n).1 → x + sumN (a.drop k) (varsN (l.drop k) n).1 ≤ 1000000 + 1000000000000 * ((l.length : Int) - k) →
    lp E0 pr0 23 16 ⟨[(0, TrsT q c l), (1, SL b ca a.length (ints a)), (2, I x), (3, I low), (4, I high), (17, .sl 0 0 l.length 1 cp), (18, I (varsN (l.drop k) n).2), (19, I (x + sumN (a.drop k) (varsN (l.drop k) n).1)), (20, I ((k : Int) - 1)), (43, I m0), (44, I m1)], [(0, .arr (ints (List.replicate k 0 ++ (varsN (l.drop k) n).1)) 0 1)], 1⟩ =
      some (.exit 4, ⟨[(0, TrsT q c l), (1, SL b ca a.length (ints a)), (2, I x), (3, I low), (4, I high), (17, .sl 0 0 l.length 1 cp), (19, I (x + sumN a (varsN l n).1)), (43, I m0), (44, I m1)], [(0, .arr (ints (varsN l n).1) 0 1)], 1⟩) := by
  intro k
  induction k with
  | zero =>
    intro h1 h2 h3
    have h7 : ¬ (0 : Int) ≤ (0 : Int) - 1 := by omega
    rw [List.drop_zero, List.drop_zero, show List.replicate 0 (0 : Int) = [] from rfl, List.nil_append]
    rw [lp_eq lp23_16]
    simp (config := { maxSteps := 1000000 }) (disch := omega) only [push_cast, ↓reduceIte, Nat.reduceEqDiff, Nat.reduceAdd, Nat.reduceLT, Nat.reduceLeDiff, Nat.reduceBEq, Nat.reduceMul, Nat.reduceSub, Int.reduceToNat, Int.reduceEq, Int.reduceLT, Int.reduceLE, Int.reduceNeg, Int.reduceAdd, Int.reduceSub, Int.reduceMul, Try.f23, kr23, kp23_16, kp23_11, kp23_6, ow23_16, ow23_11, ow23_6, ty3, ty25, ty26, ty41, ty45, Int.natCast_zero, h7]
  | succ k ih =>
    intro h1 h2 h3
    have hk : k < l.length := by omega
    have ht : l[k]? = some l[k] := List.getElem?_eq_getElem hk
    have hy : a[k]? = some a[k] := List.getElem?_eq_getElem (by omega)
    have d1 : l.drop k = l[k] :: l.drop (k + 1) := List.drop_eq_getElem_cons hk
    have d2 : a.drop k = a[k] :: a.drop (k + 1) := List.drop_eq_getElem_cons (by omega)
    generalize l[k] = t at ht d1
    generalize a[k] = y at hy d2
    have h0 := hz t (List.mem_of_getElem? ht)
    have hx := hn t (List.mem_of_getElem? ht)
    have hc := hno t (List.mem_of_getElem? ht)
    have hyn := ha y (List.mem_of_getElem? hy)
    have hu := c_turns t.1 t.2.1 t.2.2
    rw [if_pos (okT_near h0 hx.1 hx.2.1 hx.2.2)] at hu
    change CALL _ _ = some (I (cntT t), []) at hu
    obtain ⟨c0, c1⟩ := cntT_bd h0 hx
    have hV := varsN_bd (l.drop (k + 1)) n n0
    have hL := varsN_len (l.drop (k + 1)) n
    have e : varsN (l.drop k) n = ((t.1 + Int.tmod (varsN (l.drop (k + 1)) n).2 (cntT t) * t.2.2) :: (varsN (l.drop (k + 1)) n).1, Int.tdiv (varsN (l.drop (k + 1)) n).2 (cntT t)) := by rw [d1]; rfl
    have ih' := ih (by omega)
    rw [e, d2] at ih'
    simp only [sumN] at ih'
    generalize varsN (l.drop (k + 1)) n = V at *
    obtain ⟨W, z⟩ := V
    simp only at hV hL ih' h2 h3 ⊢
    have r0 : 0 ≤ Int.tmod z (cntT t) := Int.tmod_nonneg _ hV.1
    have r1 : Int.tmod z (cntT t) < cntT t := Int.tmod_lt_of_pos _ (by omega)
    have hv := near_turn h0 hx.1 hx.2.1 r0 (show Int.tmod z (cntT t) < cnt t.1 t.2.1 t.2.2 from r1)
    have m2 := mulN hyn hv
    obtain ⟨x1, x2, x3⟩ := hx
    generalize hg : Int.tmod z (cntT t) = g at *
    generalize hG : Int.tdiv z (cntT t) = G at *
    have m3 : -6000000 ≤ g * t.2.2 ∧ g * t.2.2 ≤ 6000000 := by unfold near at hv x1; omega
    have sE : x + (y * (t.1 + g * t.2.2) + sumN (a.drop (k + 1)) W) = x + sumN (a.drop (k + 1)) W + y * (t.1 + g * t.2.2) := by omega
    have hlen : (List.replicate (k + 1) (0 : Int) ++ W).length = l.length := by rw [List.length_append, List.length_replicate, hL, List.length_drop]; omega
    have hGb : 0 ≤ G ∧ G ≤ 2000 := by
      rw [← hG, Int.tdiv_eq_ediv_of_nonneg hV.1]
      exact ⟨Int.ediv_nonneg hV.1 c0, Int.le_trans (Int.ediv_le_self _ hV.1) (by omega)⟩
    have kl : k < (List.replicate (k + 1) (0 : Int) ++ W).length := by omega
    have kl2 : (k : Int) < l.length := by omega
    have kl3 : (k : Int) < a.length := by omega
    have kl4 : k < a.length := by omega
    have zs := zset k (t.1 + g * t.2.2) W
    have gd : (List.replicate k (0 : Int) ++ (t.1 + g * t.2.2) :: W).getD k 0 = t.1 + g * t.2.2 := by simp
    have kl5 : k < (List.replicate k (0 : Int) ++ (t.1 + g * t.2.2) :: W).length := by simp
    have ll : ((k + 1 : Nat) : Int) = (k : Int) + 1 := rfl
    rw [ll] at h2 h3
    have ih'' := ih' (by rw [sE]; omega) (by rw [sE]; omega)
    rw [sE] at ih''
    rw [show ((k + 1 : Nat) : Int) - 1 = (k : Int) by omega]
    unfold near at hv x1
    have hlen2 : (List.replicate k (0 : Int) ++ (t.1 + g * t.2.2) :: W).length = l.length := by rw [← zs, List.length_set, hlen]
    clear ih ih'
    generalize List.replicate (k + 1) (0 : Int) ++ W = Z at *
    generalize List.replicate k (0 : Int) ++ (t.1 + g * t.2.2) :: W = Z' at *
    rw [lp_eq lp23_16]
    simp (config := { maxSteps := 1000000 }) (disch := omega) only [push_cast, ↓reduceIte, Nat.reduceEqDiff, Nat.reduceAdd, Nat.reduceLT, Nat.reduceLeDiff, Nat.reduceBEq, Nat.reduceMul, Nat.reduceSub, Int.reduceToNat, Int.reduceEq, Int.reduceLT, Int.reduceLE, Int.reduceNeg, Int.reduceAdd, Int.reduceSub, Int.reduceMul, Try.f23, kr23, kp23_16, kp23_11, kp23_6, ow23_16, ow23_11, ow23_6, ty3, ty25, ty26, ty41, ty45, hk, kl2, kl3, kl4, kl, kl5, hlen, hlen2, tr0 ht, tr1 ht, tr2 ht, getD_of hy, hu, hc, hg, hG, splice_ints _ kl, zs, gd, ih'', ne_eq]
end
end Go.Proofs.Ytopnopepcpepbaa.Tev
