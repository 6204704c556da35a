/- The law GuardTurns: what it returns for any input. -/
import Derived.Test.YtopnopepcpepbaaC22a
namespace Go.Proofs.Ytopnopepcpepbaa.Tev
open Go Go.RowKit Go.Proofs Go.Proofs.Ytopnopepcpepbaa.Q
set_option linter.unusedSectionVars false
set_option maxRecDepth 100000
set_option maxHeartbeats 0
set_option linter.unusedSimpArgs false
set_option linter.unusedVariables false
theorem c_Awake22 : CALL 13 [] = some (B true, []) := by
  have h1 := c_First 1 1 1 5 1 1 5
  have h2 := c_Part 1 1 1 5 1 1 5
  simp only [show askE 1 5 1 [1, 1, 1, 5] = 0 by decide, if_true, show partQ 1 1 1 1 1 5 (cnt 1 5 1) = (0, 4) by decide, show firstOf (cnt 1 5 1) 0 4 = 4 by decide] at h1 h2
  refine lim_run (fn := Try.f13) fn13 rfl body13 (Nat.le_of_ble_eq_true rfl) ok13 ?_
  simp (config := { maxSteps := 1000000 }) (disch := omega) only [push_cast, ↓reduceIte, Nat.reduceEqDiff, Nat.reduceAdd, Nat.reduceLT, Nat.reduceLeDiff, Nat.reduceBEq, Nat.reduceMul, Nat.reduceSub, Int.reduceToNat, Int.reduceEq, Int.reduceLT, Int.reduceLE, Int.reduceNeg, Int.reduceAdd, Int.reduceSub, Int.reduceMul, Try.f13, kr13, ty3, ty4, ty25, tb4, h1, h2]
section
variable (a b lo hi st low high : Int)
theorem l_Turns11 (f t n : Nat) (h : askE lo hi st [a, b, low, high] = 0) (hn : (n : Int) = cnt lo hi st) (h6 : n < 600) (hP : PartSpec a b lo st low high n f t) (P Q : List Int) (hp : P.length = f) (hq : (Q.length : Int) = t - f) : ∀ (d i : Nat), i + d = n →
    lp E0 pr0 6 11 ⟨[(2, .pt 0 0), (3, .pt 1 0), (9, .sl 2 0 n 1 none), (10, .sl 3 0 P.length 1 none), (11, .sl 4 0 Q.length 1 none), (13, .sl 5 0 n 1 none), (14, I (fb f t i)), (15, I i)],
        [(0, .box [I a, I b, I low, I high]), (1, .box [I lo, I hi, I st]), (2, .arr (ints (tl lo st n)) 2 1), (3, .arr (ints P) 3 1), (4, .arr (ints Q) 4 1), (5, .arr (ints (tl lo st n)) 5 1)], 6⟩ =
      some (.exit 0, ⟨[(2, .pt 0 0), (3, .pt 1 0), (9, .sl 2 0 n 1 none), (10, .sl 3 0 P.length 1 none), (11, .sl 4 0 Q.length 1 none), (13, .sl 5 0 n 1 none), (14, I (fb f t n))],
        [(0, .box [I a, I b, I low, I high]), (1, .box [I lo, I hi, I st]), (2, .arr (ints (tl lo st n)) 2 1), (3, .arr (ints P) 3 1), (4, .arr (ints Q) 4 1), (5, .arr (ints (tl lo st n)) 5 1)], 6⟩) := by
  obtain ⟨hs, n1, n2, n3, n4, n5, n6, n7⟩ := ask4 h
  have p1 := hP.f0; have p2 := hP.tn; have p3 := hP.ft
  have hlen := tl_len lo st n
  intro d
  induction d with
  | zero =>
    intro i hi
    obtain rfl : i = n := by omega
    have h6 : ¬ (i : Int) < i := by omega
    rw [lp_eq lp6_11]
    simp (config := { maxSteps := 1000000 }) (disch := omega) only [push_cast, ↓reduceIte, Nat.reduceEqDiff, Nat.reduceAdd, Nat.reduceLT, Nat.reduceLeDiff, Nat.reduceBEq, Nat.reduceMul, Nat.reduceSub, Int.reduceToNat, Int.reduceEq, Int.reduceLT, Int.reduceLE, Int.reduceNeg, Int.reduceAdd, Int.reduceSub, Int.reduceMul, Try.f6, kr6, kp6_11, ow6_11, ty3, ty4, ty23, ty25, ty41, tb4, h6]
  | succ d ih =>
    intro i hd
    have g1 : i < n := by omega
    have g8 : (i : Int) < n := by omega
    have g9 : ¬ (n : Int) ≤ i := by omega
    have gd := getD_of (tl_get (lo := lo) (st := st) g1)
    have hb := near_turn hs n1 n2 (show (0 : Int) ≤ i by omega) (by omega)
    have m2 := mulN n4 hb
    have hiff := hP.iff i (by omega) g8
    have hstep := fb_step hP (show (0 : Int) ≤ i by omega) g8
    have ih' := ih (i + 1) (by omega)
    have e : fb f t ((i + 1 : Nat) : Int) = fb f t ((i : Int) + 1) := rfl
    rw [e, hstep] at ih'
    have hpq : (P.length : Int) + (Q.length : Int) = t := by omega
    have hpf : (P.length : Int) = f := by omega
    unfold near at n5
    have hv : val a b lo st i = a * (lo + i * st) + b := rfl
    rw [hv] at hiff
    simp only [cast1, List.length_append, List.length_cons, List.length_nil, Nat.zero_add, Nat.add_zero, Int.natCast_zero, Int.natCast_add, Int.zero_add, ints_1, ints_0, ] at ih'
    have gn : i < (tl lo st n).length := by rw [hlen]; exact g1
    rw [lp_eq lp6_11]
    by_cases c3 : (f : Int) ≤ i
    · by_cases c4 : (i : Int) < t
      · obtain ⟨c1, c2⟩ := hiff.2 ⟨c3, c4⟩
        rw [if_pos ⟨c3, c4⟩] at ih'
        have c3' : (P.length : Int) ≤ i := by omega
        have c4' : (i : Int) < (P.length : Int) + Q.length := by omega
        simp (config := { maxSteps := 1000000 }) (disch := omega) only [push_cast, ↓reduceIte, Nat.reduceEqDiff, Nat.reduceAdd, Nat.reduceLT, Nat.reduceLeDiff, Nat.reduceBEq, Nat.reduceMul, Nat.reduceSub, Int.reduceToNat, Int.reduceEq, Int.reduceLT, Int.reduceLE, Int.reduceNeg, Int.reduceAdd, Int.reduceSub, Int.reduceMul, Try.f6, kr6, kp6_11, ow6_11, ty3, ty4, ty23, ty25, ty41, tb4, g1, gn, g8, g9, gd, c1, c2, c3', c4', ih']
      · rw [if_neg (fun q => c4 q.2)] at ih'
        have c3' : (P.length : Int) ≤ i := by omega
        have c4' : ¬ (i : Int) < (P.length : Int) + Q.length := by omega
        have c12 : ¬ (low ≤ a * (lo + i * st) + b ∧ a * (lo + i * st) + b ≤ high) := fun q => c4 (hiff.1 q).2
        by_cases c1 : low ≤ a * (lo + i * st) + b
        · have c2 : ¬ a * (lo + i * st) + b ≤ high := fun q => c12 ⟨c1, q⟩
          by_cases c5 : fb f t i < 0
          · rw [if_pos c5] at ih'
            simp (config := { maxSteps := 1000000 }) (disch := omega) only [push_cast, ↓reduceIte, Nat.reduceEqDiff, Nat.reduceAdd, Nat.reduceLT, Nat.reduceLeDiff, Nat.reduceBEq, Nat.reduceMul, Nat.reduceSub, Int.reduceToNat, Int.reduceEq, Int.reduceLT, Int.reduceLE, Int.reduceNeg, Int.reduceAdd, Int.reduceSub, Int.reduceMul, Try.f6, kr6, kp6_11, ow6_11, ty3, ty4, ty23, ty25, ty41, tb4, g1, gn, g8, g9, gd, c1, c2, c3', c4', c5, ih']
          · rw [if_neg c5] at ih'
            simp (config := { maxSteps := 1000000 }) (disch := omega) only [push_cast, ↓reduceIte, Nat.reduceEqDiff, Nat.reduceAdd, Nat.reduceLT, Nat.reduceLeDiff, Nat.reduceBEq, Nat.reduceMul, Nat.reduceSub, Int.reduceToNat, Int.reduceEq, Int.reduceLT, Int.reduceLE, Int.reduceNeg, Int.reduceAdd, Int.reduceSub, Int.reduceMul, Try.f6, kr6, kp6_11, ow6_11, ty3, ty4, ty23, ty25, ty41, tb4, g1, gn, g8, g9, gd, c1, c2, c3', c4', c5, ih']
        · by_cases c5 : fb f t i < 0
          · rw [if_pos c5] at ih'
            simp (config := { maxSteps := 1000000 }) (disch := omega) only [push_cast, ↓reduceIte, Nat.reduceEqDiff, Nat.reduceAdd, Nat.reduceLT, Nat.reduceLeDiff, Nat.reduceBEq, Nat.reduceMul, Nat.reduceSub, Int.reduceToNat, Int.reduceEq, Int.reduceLT, Int.reduceLE, Int.reduceNeg, Int.reduceAdd, Int.reduceSub, Int.reduceMul, Try.f6, kr6, kp6_11, ow6_11, ty3, ty4, ty23, ty25, ty41, tb4, g1, gn, g8, g9, gd, c1, c3', c4', c5, ih']
          · rw [if_neg c5] at ih'
            simp (config := { maxSteps := 1000000 }) (disch := omega) only [push_cast, ↓reduceIte, Nat.reduceEqDiff, Nat.reduceAdd, Nat.reduceLT, Nat.reduceLeDiff, Nat.reduceBEq, Nat.reduceMul, Nat.reduceSub, Int.reduceToNat, Int.reduceEq, Int.reduceLT, Int.reduceLE, Int.reduceNeg, Int.reduceAdd, Int.reduceSub, Int.reduceMul, Try.f6, kr6, kp6_11, ow6_11, ty3, ty4, ty23, ty25, ty41, tb4, g1, gn, g8, g9, gd, c1, c3', c4', c5, ih']
    · rw [if_neg (fun q => c3 q.1)] at ih'
      have c3' : ¬ (P.length : Int) ≤ i := by omega
      have c12 : ¬ (low ≤ a * (lo + i * st) + b ∧ a * (lo + i * st) + b ≤ high) := fun q => c3 (hiff.1 q).1
      by_cases c1 : low ≤ a * (lo + i * st) + b
      · have c2 : ¬ a * (lo + i * st) + b ≤ high := fun q => c12 ⟨c1, q⟩
        by_cases c5 : fb f t i < 0
        · rw [if_pos c5] at ih'
          simp (config := { maxSteps := 1000000 }) (disch := omega) only [push_cast, ↓reduceIte, Nat.reduceEqDiff, Nat.reduceAdd, Nat.reduceLT, Nat.reduceLeDiff, Nat.reduceBEq, Nat.reduceMul, Nat.reduceSub, Int.reduceToNat, Int.reduceEq, Int.reduceLT, Int.reduceLE, Int.reduceNeg, Int.reduceAdd, Int.reduceSub, Int.reduceMul, Try.f6, kr6, kp6_11, ow6_11, ty3, ty4, ty23, ty25, ty41, tb4, g1, gn, g8, g9, gd, c1, c2, c3', c5, ih']
        · rw [if_neg c5] at ih'
          simp (config := { maxSteps := 1000000 }) (disch := omega) only [push_cast, ↓reduceIte, Nat.reduceEqDiff, Nat.reduceAdd, Nat.reduceLT, Nat.reduceLeDiff, Nat.reduceBEq, Nat.reduceMul, Nat.reduceSub, Int.reduceToNat, Int.reduceEq, Int.reduceLT, Int.reduceLE, Int.reduceNeg, Int.reduceAdd, Int.reduceSub, Int.reduceMul, Try.f6, kr6, kp6_11, ow6_11, ty3, ty4, ty23, ty25, ty41, tb4, g1, gn, g8, g9, gd, c1, c2, c3', c5, ih']
      · by_cases c5 : fb f t i < 0
        · rw [if_pos c5] at ih'
          simp (config := { maxSteps := 1000000 }) (disch := omega) only [push_cast, ↓reduceIte, Nat.reduceEqDiff, Nat.reduceAdd, Nat.reduceLT, Nat.reduceLeDiff, Nat.reduceBEq, Nat.reduceMul, Nat.reduceSub, Int.reduceToNat, Int.reduceEq, Int.reduceLT, Int.reduceLE, Int.reduceNeg, Int.reduceAdd, Int.reduceSub, Int.reduceMul, Try.f6, kr6, kp6_11, ow6_11, ty3, ty4, ty23, ty25, ty41, tb4, g1, gn, g8, g9, gd, c1, c3', c5, ih']
        · rw [if_neg c5] at ih'
          simp (config := { maxSteps := 1000000 }) (disch := omega) only [push_cast, ↓reduceIte, Nat.reduceEqDiff, Nat.reduceAdd, Nat.reduceLT, Nat.reduceLeDiff, Nat.reduceBEq, Nat.reduceMul, Nat.reduceSub, Int.reduceToNat, Int.reduceEq, Int.reduceLT, Int.reduceLE, Int.reduceNeg, Int.reduceAdd, Int.reduceSub, Int.reduceMul, Try.f6, kr6, kp6_11, ow6_11, ty3, ty4, ty23, ty25, ty41, tb4, g1, gn, g8, g9, gd, c1, c3', c5, ih']
theorem tl_all {f t n : Nat} (h1 : f ≤ t) (h2 : t ≤ n) : tl lo st f ++ (tl (lo + f * st) st (t - f) ++ tl (lo + t * st) st (n - t)) = tl lo st n := by
  have x1 := tl_add (lo + f * st) st (t - f) (n - t)
  have x2 := tl_add lo st f (n - f)
  rw [show f + (n - f) = n by omega] at x2
  rw [show t - f + (n - t) = n - f by omega] at x1
  rw [x2, x1]
  congr 3
  have : ((t - f : Nat) : Int) = t - f := by omega
  rw [this, Int.sub_mul]
  omega
theorem fb_000 : fb 0 0 0 = -1 := rfl
theorem min_41 : min 4 1 = 1 := rfl
theorem row_tl (lo st : Int) (n : Nat) : rowAt (ints (tl lo st n)) 0 n = ints (tl lo st n) := rowAt_all _ _ (by rw [ints_len, tl_len])
theorem GuardTurns_true' : CALL 6 [.agg [I a, I b, I low, I high], Tri lo hi st] = some (B true, []) := by
  by_cases h : askE lo hi st [a, b, low, high] = 0
  · obtain ⟨hs, n1, n2, n3, n4, n5, n6, n7⟩ := ask4 h
    obtain ⟨hn0, hn1⟩ := cnt_near hs n1 n2
    obtain ⟨f, t, hpq, hP⟩ := partQ_spec h
    have hsp := c_Split a b lo hi st low high f t h hpq hP
    by_cases h6 : cnt lo hi st < 600
    · have p1 := hP.f0; have p2 := hP.tn; have p3 := hP.ft
      have t1 := c_piece lo hi st 0 f hs n1 n2 n3 (by omega) (by omega) h6
      have t2 := c_piece lo hi st f t hs n1 n2 n3 (by omega) (by omega) h6
      have t3 := c_piece lo hi st t (cnt lo hi st) hs n1 n2 n3 (by omega) (by omega) h6
      have t0 := c_lturns lo hi st hs n1 n2 n3 (cnt lo hi st).toNat (.inl (by omega)) (by omega)
      have hp := c_Part a b lo hi st low high
      have hf := c_First a b lo hi st low high
      have hsf := c_Safe a b lo hi st low high h
      have hen := c_Ends a b lo hi st low high h
      rw [if_pos h, if_pos h, h, hpq] at hp
      rw [if_pos h, h, hpq, ← fb_last hn0 hP] at hf
      rw [hpq, ← fb_last hn0 hP] at hsf
      obtain ⟨n, hn⟩ : ∃ n : Nat, cnt lo hi st = n := ⟨_, (Int.toNat_of_nonneg hn0).symm⟩
      obtain ⟨f, rfl⟩ : ∃ k : Nat, f = k := ⟨f.toNat, by omega⟩
      obtain ⟨t, rfl⟩ : ∃ k : Nat, t = k := ⟨t.toNat, by omega⟩
      rw [hn] at hsp t3 t0 hf hsf hen hP p2
      have q1 : f ≤ t := by omega
      have q2 : t ≤ n := by omega
      rw [show ((f : Int) - 0).toNat = f by omega, show lo + 0 * st = lo by omega] at t1
      rw [show ((t : Int) - f).toNat = t - f by omega] at t2
      rw [show ((n : Int) - t).toNat = n - t by omega] at t3
      rw [Int.toNat_natCast] at t0
      have hall := tl_all lo st q1 q2
      have hl := l_Turns11 a b lo hi st low high f t n h hn.symm (by omega) hP (tl lo st f) (tl (lo + f * st) st (t - f)) (tl_len _ _ _) (by rw [tl_len]; omega) n 0 (by omega)
      rw [tl_len, tl_len] at hl
      simp only [Int.natCast_zero, show fb (f : Int) t 0 = -1 from rfl] at hl
      have k1 : ¬ (600 : Int) ≤ n := by omega
      have k2 : f + (t - f) + (n - t) = n := by omega
      have k3 : ((t - f : Nat) : Int) = t - f := by omega
      have hv0 := hP.iff 0 (by omega)
      have hvl := hP.iff (n - 1)
      by_cases hz : n = 0
      · subst hz
        obtain rfl : t = 0 := by omega
        obtain rfl : f = 0 := by omega
        simp only [show fb ((0 : Nat) : Int) ((0 : Nat) : Int) ((0 : Nat) : Int) = -1 from rfl, Int.natCast_zero, if_true, show decide ((-1 : Int) < 0) = true by decide, show decide (¬ (0 : Int) = 0) = false by decide, Nat.sub_zero, show ∀ x : Int, tl x st 0 = [] from fun _ => rfl, ints_0, Int.zero_mul, Int.add_zero] at hsp t0 t1 t2 t3 hl hp hf hsf hen
        refine lim_run (fn := Try.f6) fn6 rfl body6 (Nat.le_of_ble_eq_true rfl) ok6 ?_
        simp (config := { maxSteps := 1000000 }) (disch := omega) only [push_cast, ↓reduceIte, Nat.reduceEqDiff, Nat.reduceAdd, Nat.reduceLT, Nat.reduceLeDiff, Nat.reduceBEq, Nat.reduceMul, Nat.reduceSub, Int.reduceToNat, Int.reduceEq, Int.reduceLT, Int.reduceLE, Int.reduceNeg, Int.reduceAdd, Int.reduceSub, Int.reduceMul, Try.f6, kr6, kp6_11, ow6_11, ty3, ty4, ty23, ty25, ty41, tb4, fb_000, min_41, hsp, t0, t1, t2, t3, hl, hp, hf, hsf, hen, c_Awake22]
      · have hz' : ¬ (n : Int) = 0 := by omega
        have hz2 : 0 < (n : Int) := by omega
        rw [if_neg hz', if_neg hz', decide_eq_true hz'] at hen
        have hv0 := hv0 hz2
        have hvl := hvl (by omega) (by omega)
        have hr : fb f t n < 0 ↔ (f = 0 ∧ t = n) := by
          unfold fb; (repeat' split) <;> omega
        have hmn : low ≤ mn (val a b lo st 0) (val a b lo st ((n : Int) - 1)) ↔ (low ≤ val a b lo st 0 ∧ low ≤ val a b lo st (n - 1)) := by unfold mn; split <;> omega
        have hmx : mx (val a b lo st 0) (val a b lo st ((n : Int) - 1)) ≤ high ↔ (val a b lo st 0 ≤ high ∧ val a b lo st (n - 1) ≤ high) := by unfold mx; split <;> omega
        have key : fb f t n < 0 ↔ (low ≤ mn (val a b lo st 0) (val a b lo st ((n : Int) - 1)) ∧ mx (val a b lo st 0) (val a b lo st ((n : Int) - 1)) ≤ high) := by
          rw [hr, hmn, hmx]
          constructor
          · rintro ⟨x1, x2⟩
            have y1 := hv0.2 (by omega)
            have y2 := hvl.2 (by omega)
            exact ⟨⟨y1.1, y2.1⟩, y1.2, y2.2⟩
          · rintro ⟨⟨x1, x2⟩, x3, x4⟩
            have y1 := hv0.1 ⟨x1, x3⟩
            have y2 := hvl.1 ⟨x2, x4⟩
            omega
        generalize mn (val a b lo st 0) (val a b lo st ((n : Int) - 1)) = X at hen key
        generalize mx (val a b lo st 0) (val a b lo st ((n : Int) - 1)) = Y at hen key
        generalize hR : fb (f : Int) t n = R at hf hsf hl key
        clear hmn hmx hv0 hvl hr hP hpq
        have r1 := row_tl lo st n
        have r2 := row_tl lo st f
        have r3 := row_tl (lo + f * st) st (t - f)
        have r4 := row_tl (lo + t * st) st (n - t)
        have l1 := tl_len lo st f
        have l2 := tl_len (lo + f * st) st (t - f)
        have l3 := tl_len (lo + t * st) st (n - t)
        have l0 := tl_len lo st n
        generalize tl lo st f = A1 at *
        generalize tl (lo + f * st) st (t - f) = A2 at *
        generalize tl (lo + t * st) st (n - t) = A3 at *
        generalize tl lo st n = A0 at *
        refine lim_run (fn := Try.f6) fn6 rfl body6 (Nat.le_of_ble_eq_true rfl) ok6 ?_
        simp (config := { maxSteps := 1000000 }) (disch := omega) only [push_cast, ↓reduceIte, Nat.reduceEqDiff, Nat.reduceAdd, Nat.reduceLT, Nat.reduceLeDiff, Nat.reduceBEq, Nat.reduceMul, Nat.reduceSub, Int.reduceToNat, Int.reduceEq, Int.reduceLT, Int.reduceLE, Int.reduceNeg, Int.reduceAdd, Int.reduceSub, Int.reduceMul, Try.f6, kr6, kp6_11, ow6_11, ty3, ty4, ty23, ty25, ty41, tb4, min_41, hsp, t0, t1, t2, t3, k1, k2, k3, r1, r2, r3, r4, l0, l1, l2, l3, hall, List.append_assoc, hl]
        by_cases c5 : R < 0
        · have c1 := (key.1 c5).1
          have c2 := (key.1 c5).2
          rw [decide_eq_true c5] at hsf
          by_cases c6 : (f : Int) < t
          · have c7 : (0 : Int) < (t : Int) - f := by omega
            simp (config := { maxSteps := 1000000 }) (disch := omega) only [push_cast, ↓reduceIte, Nat.reduceEqDiff, Nat.reduceAdd, Nat.reduceLT, Nat.reduceLeDiff, Nat.reduceBEq, Nat.reduceMul, Nat.reduceSub, Int.reduceToNat, Int.reduceEq, Int.reduceLT, Int.reduceLE, Int.reduceNeg, Int.reduceAdd, Int.reduceSub, Int.reduceMul, Try.f6, kr6, kp6_11, ow6_11, ty3, ty4, ty23, ty25, ty41, tb4, k3, l0, l1, l2, l3, hp, hf, hsf, hen, c1, c2, c5, c7, hz2, c_Awake22]
          · have c7 : ¬ (0 : Int) < (t : Int) - f := by omega
            simp (config := { maxSteps := 1000000 }) (disch := omega) only [push_cast, ↓reduceIte, Nat.reduceEqDiff, Nat.reduceAdd, Nat.reduceLT, Nat.reduceLeDiff, Nat.reduceBEq, Nat.reduceMul, Nat.reduceSub, Int.reduceToNat, Int.reduceEq, Int.reduceLT, Int.reduceLE, Int.reduceNeg, Int.reduceAdd, Int.reduceSub, Int.reduceMul, Try.f6, kr6, kp6_11, ow6_11, ty3, ty4, ty23, ty25, ty41, tb4, k3, l0, l1, l2, l3, hp, hf, hsf, hen, c1, c2, c5, c7, hz2, c_Awake22]
        · rw [decide_eq_false c5] at hsf
          by_cases c1 : low ≤ X
          · have c2 : ¬ Y ≤ high := fun q => c5 (key.2 ⟨c1, q⟩)
            by_cases c6 : (f : Int) < t
            · have c7 : (0 : Int) < (t : Int) - f := by omega
              simp (config := { maxSteps := 1000000 }) (disch := omega) only [push_cast, ↓reduceIte, Nat.reduceEqDiff, Nat.reduceAdd, Nat.reduceLT, Nat.reduceLeDiff, Nat.reduceBEq, Nat.reduceMul, Nat.reduceSub, Int.reduceToNat, Int.reduceEq, Int.reduceLT, Int.reduceLE, Int.reduceNeg, Int.reduceAdd, Int.reduceSub, Int.reduceMul, Try.f6, kr6, kp6_11, ow6_11, ty3, ty4, ty23, ty25, ty41, tb4, k3, l0, l1, l2, l3, hp, hf, hsf, hen, c1, c2, c5, c7, hz2, c_Awake22]
            · have c7 : ¬ (0 : Int) < (t : Int) - f := by omega
              simp (config := { maxSteps := 1000000 }) (disch := omega) only [push_cast, ↓reduceIte, Nat.reduceEqDiff, Nat.reduceAdd, Nat.reduceLT, Nat.reduceLeDiff, Nat.reduceBEq, Nat.reduceMul, Nat.reduceSub, Int.reduceToNat, Int.reduceEq, Int.reduceLT, Int.reduceLE, Int.reduceNeg, Int.reduceAdd, Int.reduceSub, Int.reduceMul, Try.f6, kr6, kp6_11, ow6_11, ty3, ty4, ty23, ty25, ty41, tb4, k3, l0, l1, l2, l3, hp, hf, hsf, hen, c1, c2, c5, c7, hz2, c_Awake22]
          · skip
            by_cases c6 : (f : Int) < t
            · have c7 : (0 : Int) < (t : Int) - f := by omega
              simp (config := { maxSteps := 1000000 }) (disch := omega) only [push_cast, ↓reduceIte, Nat.reduceEqDiff, Nat.reduceAdd, Nat.reduceLT, Nat.reduceLeDiff, Nat.reduceBEq, Nat.reduceMul, Nat.reduceSub, Int.reduceToNat, Int.reduceEq, Int.reduceLT, Int.reduceLE, Int.reduceNeg, Int.reduceAdd, Int.reduceSub, Int.reduceMul, Try.f6, kr6, kp6_11, ow6_11, ty3, ty4, ty23, ty25, ty41, tb4, k3, l0, l1, l2, l3, hp, hf, hsf, hen, c1, c5, c7, hz2, c_Awake22]
            · have c7 : ¬ (0 : Int) < (t : Int) - f := by omega
              simp (config := { maxSteps := 1000000 }) (disch := omega) only [push_cast, ↓reduceIte, Nat.reduceEqDiff, Nat.reduceAdd, Nat.reduceLT, Nat.reduceLeDiff, Nat.reduceBEq, Nat.reduceMul, Nat.reduceSub, Int.reduceToNat, Int.reduceEq, Int.reduceLT, Int.reduceLE, Int.reduceNeg, Int.reduceAdd, Int.reduceSub, Int.reduceMul, Try.f6, kr6, kp6_11, ow6_11, ty3, ty4, ty23, ty25, ty41, tb4, k3, l0, l1, l2, l3, hp, hf, hsf, hen, c1, c5, c7, hz2, c_Awake22]
    · have t0 := c_lturns lo hi st hs n1 n2 n3 600 (.inr ⟨rfl, by omega⟩) (by omega)
      refine lim_run (fn := Try.f6) fn6 rfl body6 (Nat.le_of_ble_eq_true rfl) ok6 ?_
      simp (config := { maxSteps := 1000000 }) (disch := omega) only [push_cast, ↓reduceIte, Nat.reduceEqDiff, Nat.reduceAdd, Nat.reduceLT, Nat.reduceLeDiff, Nat.reduceBEq, Nat.reduceMul, Nat.reduceSub, Int.reduceToNat, Int.reduceEq, Int.reduceLT, Int.reduceLE, Int.reduceNeg, Int.reduceAdd, Int.reduceSub, Int.reduceMul, Try.f6, kr6, kp6_11, ow6_11, ty3, ty4, ty23, ty25, ty41, tb4, hsp, t0, c_Awake22]
  · have hsp := c_SplitE a b lo hi st low high h
    refine lim_run (fn := Try.f6) fn6 rfl body6 (Nat.le_of_ble_eq_true rfl) ok6 ?_
    simp (config := { maxSteps := 1000000 }) (disch := omega) only [push_cast, ↓reduceIte, Nat.reduceEqDiff, Nat.reduceAdd, Nat.reduceLT, Nat.reduceLeDiff, Nat.reduceBEq, Nat.reduceMul, Nat.reduceSub, Int.reduceToNat, Int.reduceEq, Int.reduceLT, Int.reduceLE, Int.reduceNeg, Int.reduceAdd, Int.reduceSub, Int.reduceMul, Try.f6, kr6, kp6_11, ow6_11, ty3, ty4, ty23, ty25, ty41, tb4, hsp, h, c_Awake22]
end
abbrev AccQ := Int × Int × Int × Int
abbrev TriQ := Int × Int × Int
theorem GuardTurns_true (x : AccQ) (y : TriQ) (hx : (-9223372036854775808 ≤ x.1 ∧ x.1 ≤ 9223372036854775807) ∧ (-9223372036854775808 ≤ x.2.1 ∧ x.2.1 ≤ 9223372036854775807) ∧ (-9223372036854775808 ≤ x.2.2.1 ∧ x.2.2.1 ≤ 9223372036854775807) ∧ (-9223372036854775808 ≤ x.2.2.2 ∧ x.2.2.2 ≤ 9223372036854775807))
    (hy : (-9223372036854775808 ≤ y.1 ∧ y.1 ≤ 9223372036854775807) ∧ (-9223372036854775808 ≤ y.2.1 ∧ y.2.1 ≤ 9223372036854775807) ∧ (-9223372036854775808 ≤ y.2.2 ∧ y.2.2 ≤ 9223372036854775807)) :
    CALL 6 [.agg [I x.1, I x.2.1, I x.2.2.1, I x.2.2.2], Tri y.1 y.2.1 y.2.2] = some (B true, []) := GuardTurns_true' x.1 x.2.1 y.1 y.2.1 y.2.2 x.2.2.1 x.2.2.2
end Go.Proofs.Ytopnopepcpepbaa.Tev
