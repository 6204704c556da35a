/- The second layer: overlap.Distances is told; Way, Meet, Awake. -/
import Derived.Test.YtancjhajhdhfbaaC17t
namespace Go.Proofs.Ytancjhajhdhfbaa.Tev
open Go Go.RowKit Go.Proofs Go.Proofs.Ytancjhajhdhfbaa.Q
set_option linter.unusedSectionVars false
set_option maxRecDepth 100000
set_option maxHeartbeats 0
set_option linter.unusedSimpArgs false
set_option linter.unusedVariables false
section
variable (ar a : Int) (b1 b2 b3 : Bool) (c1 c2 c3 : Option Nat) (E S : List Int) (ar' b : Int) (S' : List Int)
theorem setQ_nil : setQ [] = [] := List.eq_nil_iff_forall_not_mem.2 fun z hz => by have := (setQ_mem [] z).1 hz; simp at this
theorem errRR_or : errRR a E S b S' = 0 ∨ errRR a E S b S' = 2 := by
  unfold errRR; split <;> simp
theorem meetL_err (h : errRR a E S b S' = 2) : meetL ar a E S ar' b S' = [] := by
  unfold errRR at h
  unfold meetL
  rw [if_neg fun q => ?_]
  rw [if_pos q.1] at h
  simp at h
abbrev distR (L : List Int) (e : Int) : R := (.tup [.sl 0 0 L.length 1 none, I e], [ints L])
theorem dist_all (h1 : (E.length : Int) ≤ 9223372036854775806) (h2 : (S.length : Int) ≤ 9223372036854775806) (h3 : (S'.length : Int) ≤ 9223372036854775806) :
    CallsR E0.P 14 [SL b1 c1 E.length (ints E), Rf ar a b2 c2 S, Rf ar' b b3 c3 S'] (distR (distL ar a E S ar' b S') (errRR a E S b S')) := by
  rcases errRR_or a E S b S' with he | he
  · rw [he]
    exact dist_walk ar a b1 b2 b3 c1 c2 c3 E S ar' b S' h1 h2 h3 he
  · have hm := meetL_err ar a E S ar' b S' he
    have hp := fun b0 b2 b3 c0 c2 c3 => s1_Pairs ar a b0 b2 b3 c0 c2 c3 E S ar' b S' h1 h2 h3
    unfold pairsRes at hp
    unfold distL
    rw [he, hm] at hp
    rw [he, hm, show apartL [] = [] from rfl, setQ_nil]
    refine lim_sound mixed pr1_ok _ _ _ ?_
    show CALL1 14 _ = _
    refine lim_run (fn := Try.f14) fn14 (pr1_none (by decide) _) body14 (Nat.le_of_ble_eq_true rfl) ok14 ?_
    simp (config := { maxSteps := 1000000 }) (disch := omega) only [push_cast, ↓reduceIte, Nat.reduceEqDiff, Nat.reduceAdd, Nat.reduceLT, Nat.reduceLeDiff, Nat.reduceBEq, Nat.reduceMul, Nat.reduceSub, Int.reduceToNat, Int.reduceEq, Int.reduceLT, Int.reduceLE, Int.reduceNeg, Int.reduceAdd, Int.reduceSub, Int.reduceMul, Try.f14, kr14, kp14_6, ow14_6, ty3, ty22, ty24, ty28, ty29, ty49, hp, ne_eq, pairCs_nil]
    rfl
end
def Sp2 (f : FuncId) (xs : List T) (r : R) : Prop :=
  f = 14 ∧ ∃ (ar a : Int) (b1 b2 b3 : Bool) (c1 c2 c3 : Option Nat) (E S : List Int) (ar' b : Int) (S' : List Int), (E.length : Int) ≤ 9223372036854775806 ∧ (S.length : Int) ≤ 9223372036854775806 ∧ (S'.length : Int) ≤ 9223372036854775806 ∧
    xs = [SL b1 c1 E.length (ints E), Rf ar a b2 c2 S, Rf ar' b b3 c3 S'] ∧ r = distR (distL ar a E S ar' b S') (errRR a E S b S')
theorem Sp2_ok (f : FuncId) (xs : List T) (r : R) (h : Sp2 f xs r) : CallsR E0.P f xs r := by
  obtain ⟨rfl, ar, a, b1, b2, b3, c1, c2, c3, E, S, ar', b, S', h1, h2, h3, rfl, rfl⟩ := h
  exact dist_all ar a b1 b2 b3 c1 c2 c3 E S ar' b S' h1 h2 h3
theorem Sp2_one {f : FuncId} {xs : List T} {r r' : R} (h : Sp2 f xs r) (h' : Sp2 f xs r') : r' = r := by
  obtain ⟨rfl, ar, a, b1, b2, b3, c1, c2, c3, E, S, ar', b, S', h1, h2, h3, rfl, rfl⟩ := h
  obtain ⟨_, ar1, a1, b11, b21, b31, c11, c21, c31, E1, S1, ar1', b1', S1', _, _, _, e, rfl⟩ := h'
  simp only [List.cons.injEq, and_true] at e
  obtain ⟨e1, e2, e3⟩ := e
  obtain rfl := SLi_inj e1
  obtain ⟨rfl, rfl, rfl⟩ := Rf_inj e2
  obtain ⟨rfl, rfl, rfl⟩ := Rf_inj e3
  rfl
noncomputable def pr2 : FuncId → List T → Option R := relP Sp2 (butP NEW CALL1)
theorem pr2_ok : CallOK E0.P pr2 := relP_ok Sp2_ok (butP_ok (lim_sound mixed pr1_ok))
noncomputable abbrev CALL2 := (lim E0 pr2).call
theorem pr2_none {f : FuncId} (h : f ≠ 14 ∧ f ∈ NEW) (xs : List T) : pr2 f xs = none := (relP_none fun r q => h.1 q.1).trans (if_pos h.2)
theorem up2 {f : FuncId} {xs : List T} {r : R} (h : f ≠ 14 ∧ f ∉ NEW) (hc : CALL1 f xs = some r) : CALL2 f xs = some r :=
  lim_pr ((relP_none fun r q => h.1 q.1).trans ((if_neg h.2).trans hc))
theorem old2 {f : FuncId} {xs : List T} {r : R} (h : (f ≠ 12 ∧ f ≠ 26) ∧ f ≠ 14 ∧ f ∉ NEW) (hc : CALL f xs = some r) : CALL2 f xs = some r :=
  up2 h.2 (old1 ⟨h.1, h.2.2⟩ hc)
section
variable (ar a : Int) (b1 b2 b3 : Bool) (c1 c2 c3 : Option Nat) (E S : List Int) (ar' b : Int) (S' : List Int) (h1 : (E.length : Int) ≤ 9223372036854775806) (h2 : (S.length : Int) ≤ 9223372036854775806) (h3 : (S'.length : Int) ≤ 9223372036854775806)
include h1 h2 h3
theorem s2_Pairs : CALL2 12 [SL b1 c1 E.length (ints E), Rf ar a b2 c2 S, Rf ar' b b3 c3 S'] = some (pairsRes (meetL ar a E S ar' b S') (errRR a E S b S')) :=
  up2 (by decide) (s1_Pairs ar a b1 b2 b3 c1 c2 c3 E S ar' b S' h1 h2 h3)
theorem s2_Dist : CALL2 14 [SL b1 c1 E.length (ints E), Rf ar a b2 c2 S, Rf ar' b b3 c3 S'] = some (distR (distL ar a E S ar' b S') (errRR a E S b S')) :=
  lim_pr (relP_of ⟨rfl, ar, a, b1, b2, b3, c1, c2, c3, E, S, ar', b, S', h1, h2, h3, rfl, rfl⟩ fun r' h => Sp2_one ⟨rfl, ar, a, b1, b2, b3, c1, c2, c3, E, S, ar', b, S', h1, h2, h3, rfl, rfl⟩ h)
theorem s2_Meet : CALL2 19 [SL b1 c1 E.length (ints E), Rf ar a b2 c2 S, Rf ar' b b3 c3 S'] = some (.tup [B (decide (0 < (meetL ar a E S ar' b S').length)), I (errRR a E S b S')], []) := by
  have hp := fun b0 b2 b3 c0 c2 c3 => s2_Pairs ar a b0 b2 b3 c0 c2 c3 E S ar' b S' h1 h2 h3
  unfold pairsRes at hp
  have hd : decide ((0 : Int) < (meetL ar a E S ar' b S').length) = decide (0 < (meetL ar a E S ar' b S').length) := by rw [decide_eq_decide]; omega
  refine lim_run (fn := Try.f19) fn19 (pr2_none (by decide) _) body19 (Nat.le_of_ble_eq_true rfl) ok19 ?_
  simp (config := { maxSteps := 1000000 }) (disch := omega) only [push_cast, ↓reduceIte, Nat.reduceEqDiff, Nat.reduceAdd, Nat.reduceLT, Nat.reduceLeDiff, Nat.reduceBEq, Nat.reduceMul, Nat.reduceSub, Int.reduceToNat, Int.reduceEq, Int.reduceLT, Int.reduceLE, Int.reduceNeg, Int.reduceAdd, Int.reduceSub, Int.reduceMul, Try.f19, kr19, ty3, ty4, ty22, ty24, ty28, ty29, ty49, tb4, hp, hd]
def wayS (c : Nat) : ByteArray := if c = 0 then ⟨#[110, 111, 110, 101]⟩ else if c = 1 then ⟨#[115, 97, 109, 101]⟩ else if c = 2 then ⟨#[111, 110]⟩ else if c = 3 then ⟨#[98, 97, 99, 107]⟩ else ⟨#[98, 111, 116, 104]⟩
def wayQ : ByteArray := if errRR a E S b S' = 0 then wayS (wayC (distL ar a E S ar' b S')) else ⟨#[]⟩
theorem s2_Way : CALL2 18 [SL b1 c1 E.length (ints E), Rf ar a b2 c2 S, Rf ar' b b3 c3 S'] = some (.tup [.c (.v (.string (wayQ ar a E S ar' b S'))), I (errRR a E S b S')], []) := by
  have hp := fun b0 b2 b3 c0 c2 c3 => s2_Dist ar a b0 b2 b3 c0 c2 c3 E S ar' b S' h1 h2 h3
  unfold wayQ
  refine lim_run (fn := Try.f18) fn18 (pr2_none (by decide) _) body18 (Nat.le_of_ble_eq_true rfl) ok18 ?_
  rcases errRR_or a E S b S' with he | he
  · rw [he] at hp ⊢
    rw [if_pos rfl]
    have hst : (distL ar a E S ar' b S').Pairwise (· < ·) := setQ_strict _
    have hlen : (distL ar a E S ar' b S').length ≤ 160000 := by
      have := meetL_len ar a E S ar' b S'
      have h5 := cpt_le (sortQ (apartL (meetL ar a E S ar' b S')))
      rw [sortQ_len] at h5
      unfold apartL at h5
      rw [List.length_map] at h5
      unfold distL setQ apartL
      omega
    generalize distL ar a E S ar' b S' = ds at *
    unfold distR at hp
    by_cases h0 : ds = []
    · subst h0
      have hw : wayS (wayC []) = ⟨#[110, 111, 110, 101]⟩ := by unfold wayC; rw [if_pos rfl]; rfl
      simp (config := { maxSteps := 1000000 }) (disch := omega) only [push_cast, ↓reduceIte, Nat.reduceEqDiff, Nat.reduceAdd, Nat.reduceLT, Nat.reduceLeDiff, Nat.reduceBEq, Nat.reduceMul, Nat.reduceSub, Int.reduceToNat, Int.reduceEq, Int.reduceLT, Int.reduceLE, Int.reduceNeg, Int.reduceAdd, Int.reduceSub, Int.reduceMul, Try.f18, kr18, ty3, ty9, ty22, ty24, ty29, hp, ne_eq, hw]
    · obtain ⟨x, hx⟩ : ∃ x, ds[0]? = some x := by
        cases ds with
        | nil => exact absurd rfl h0
        | cons x l => exact ⟨x, rfl⟩
      have hz : ds[ds.length - 1]? = some (ds.getLast h0) := by rw [List.getLast_eq_getElem]; exact List.getElem?_eq_getElem _
      have hn : ¬ (ds.length : Int) = 0 := by
        have := List.length_pos_iff.2 h0; omega
      have hl : wayC ds = if x = 0 ∧ ds.getLast h0 = 0 then 1 else if 0 ≤ x then 2 else if ds.getLast h0 ≤ 0 then 3 else 4 := by
        cases ds with
        | nil => exact absurd rfl h0
        | cons y l =>
          simp only [List.getElem?_cons_zero, Option.some.injEq] at hx
          subst hx
          exact wayC_ends hst rfl
      have hm : (IntKind.i64.wrap ((ds.length : Int) - 1)) = ((ds.length - 1 : Nat) : Int) := by
        rw [show IntKind.i64.wrap ((ds.length : Int) - 1) = (ds.length : Int) - 1 from w64 (by omega) (by omega)]; omega
      have hm2 : ds.length - 1 < ds.length := by omega
      have hm3 : 0 < ds.length := by omega
      have hm4 : ((ds.length - 1 : Nat) : Int) < ds.length := by omega
      have hm5 : (0 : Int) < ds.length := by omega
      generalize ds.getLast h0 = z at *
      generalize hk : ds.length - 1 = k at *
      have w1 : wayS 1 = ⟨#[115, 97, 109, 101]⟩ := rfl
      have w2 : wayS 2 = ⟨#[111, 110]⟩ := rfl
      have w3 : wayS 3 = ⟨#[98, 97, 99, 107]⟩ := rfl
      have w4 : wayS 4 = ⟨#[98, 111, 116, 104]⟩ := rfl
      by_cases q1 : x = 0
      · by_cases q2 : z = 0
        · rw [hl, if_pos ⟨q1, q2⟩, w1]
          subst q1 q2
          simp (config := { maxSteps := 1000000 }) (disch := omega) only [push_cast, ↓reduceIte, Nat.reduceEqDiff, Nat.reduceAdd, Nat.reduceLT, Nat.reduceLeDiff, Nat.reduceBEq, Nat.reduceMul, Nat.reduceSub, Int.reduceToNat, Int.reduceEq, Int.reduceLT, Int.reduceLE, Int.reduceNeg, Int.reduceAdd, Int.reduceSub, Int.reduceMul, Try.f18, kr18, ty3, ty9, ty22, ty24, ty29, hp, ne_eq, hn, getD_of hx, getD_of hz, hm, hm2, hm3, hm4, hm5]
        · rw [hl, if_neg fun q => q2 q.2, if_pos (by omega), w2]
          subst q1
          simp (config := { maxSteps := 1000000 }) (disch := omega) only [push_cast, ↓reduceIte, Nat.reduceEqDiff, Nat.reduceAdd, Nat.reduceLT, Nat.reduceLeDiff, Nat.reduceBEq, Nat.reduceMul, Nat.reduceSub, Int.reduceToNat, Int.reduceEq, Int.reduceLT, Int.reduceLE, Int.reduceNeg, Int.reduceAdd, Int.reduceSub, Int.reduceMul, Try.f18, kr18, ty3, ty9, ty22, ty24, ty29, hp, ne_eq, hn, getD_of hx, getD_of hz, hm, hm2, hm3, hm4, hm5, q2]
      · by_cases q2 : 0 ≤ x
        · rw [hl, if_neg fun q => q1 q.1, if_pos q2, w2]
          simp (config := { maxSteps := 1000000 }) (disch := omega) only [push_cast, ↓reduceIte, Nat.reduceEqDiff, Nat.reduceAdd, Nat.reduceLT, Nat.reduceLeDiff, Nat.reduceBEq, Nat.reduceMul, Nat.reduceSub, Int.reduceToNat, Int.reduceEq, Int.reduceLT, Int.reduceLE, Int.reduceNeg, Int.reduceAdd, Int.reduceSub, Int.reduceMul, Try.f18, kr18, ty3, ty9, ty22, ty24, ty29, hp, ne_eq, hn, getD_of hx, getD_of hz, hm, hm2, hm3, hm4, hm5, q1, q2]
        · by_cases q3 : z ≤ 0
          · rw [hl, if_neg fun q => q1 q.1, if_neg q2, if_pos q3, w3]
            simp (config := { maxSteps := 1000000 }) (disch := omega) only [push_cast, ↓reduceIte, Nat.reduceEqDiff, Nat.reduceAdd, Nat.reduceLT, Nat.reduceLeDiff, Nat.reduceBEq, Nat.reduceMul, Nat.reduceSub, Int.reduceToNat, Int.reduceEq, Int.reduceLT, Int.reduceLE, Int.reduceNeg, Int.reduceAdd, Int.reduceSub, Int.reduceMul, Try.f18, kr18, ty3, ty9, ty22, ty24, ty29, hp, ne_eq, hn, getD_of hx, getD_of hz, hm, hm2, hm3, hm4, hm5, q1, q2, q3]
          · rw [hl, if_neg fun q => q1 q.1, if_neg q2, if_neg q3, w4]
            simp (config := { maxSteps := 1000000 }) (disch := omega) only [push_cast, ↓reduceIte, Nat.reduceEqDiff, Nat.reduceAdd, Nat.reduceLT, Nat.reduceLeDiff, Nat.reduceBEq, Nat.reduceMul, Nat.reduceSub, Int.reduceToNat, Int.reduceEq, Int.reduceLT, Int.reduceLE, Int.reduceNeg, Int.reduceAdd, Int.reduceSub, Int.reduceMul, Try.f18, kr18, ty3, ty9, ty22, ty24, ty29, hp, ne_eq, hn, getD_of hx, getD_of hz, hm, hm2, hm3, hm4, hm5, q1, q2, q3]
  · rw [he] at hp ⊢
    simp (config := { maxSteps := 1000000 }) (disch := omega) only [push_cast, ↓reduceIte, Nat.reduceEqDiff, Nat.reduceAdd, Nat.reduceLT, Nat.reduceLeDiff, Nat.reduceBEq, Nat.reduceMul, Nat.reduceSub, Int.reduceToNat, Int.reduceEq, Int.reduceLT, Int.reduceLE, Int.reduceNeg, Int.reduceAdd, Int.reduceSub, Int.reduceMul, Try.f18, kr18, ty3, ty9, ty22, ty24, ty29, hp, ne_eq]
omit h1 h2 h3
theorem way_awake : wayQ 0 0 [4] [1] 0 1 [1] = ⟨#[98, 97, 99, 107]⟩ := by
  unfold wayQ
  rw [if_pos (by decide), show wayC (distL 0 0 [4] [1] 0 1 [1]) = wayC (apartL (meetL 0 0 [4] [1] 0 1 [1])) from wayC_ext (setQ_mem _), show wayC (apartL (meetL 0 0 [4] [1] 0 1 [1])) = 3 by decide]
  rfl
theorem s2_Awake : CALL2 11 [] = some (B true, []) := by
  have hw := fun b1 b2 b3 c1 c2 c3 => s2_Way 0 0 b1 b2 b3 c1 c2 c3 [4] [1] 0 1 [1] (by decide) (by decide) (by decide)
  rw [way_awake, show errRR 0 [4] [1] 1 [1] = 0 by decide] at hw
  have hw : CALL2 18 [SL false (some 1) 1 [CI 4], .agg [I 0, I 0, SL false (some 1) 1 [CI 1]], .agg [I 0, I 1, SL false (some 1) 1 [CI 1]]] = some (.tup [.c (.v (.string ⟨#[98, 97, 99, 107]⟩)), I 0], []) := hw false false false (some 1) (some 1) (some 1)
  refine lim_run (fn := Try.f11) fn11 (pr2_none (by decide) _) body11 (Nat.le_of_ble_eq_true rfl) ok11 ?_
  simp (config := { maxSteps := 1000000 }) (disch := omega) only [push_cast, ↓reduceIte, Nat.reduceEqDiff, Nat.reduceAdd, Nat.reduceLT, Nat.reduceLeDiff, Nat.reduceBEq, Nat.reduceMul, Nat.reduceSub, Int.reduceToNat, Int.reduceEq, Int.reduceLT, Int.reduceLE, Int.reduceNeg, Int.reduceAdd, Int.reduceSub, Int.reduceMul, Try.f11, kr11, ty3, ty4, ty22, ty24, tb4, hw]
end
end Go.Proofs.Ytancjhajhdhfbaa.Tev
