/- overlap.Pairs: the loops behind the map, and the pairs as cells. -/
import Derived.Test.YtancjhajhdhfbaaC17d
import Derived.Test.YtancjhajhdhfbaaQPair
import Derived.Test.YtancjhajhdhfbaaTevRows4
import Derived.Test.YtancjhajhdhfbaaTevPrim
namespace Go.Proofs.Ytancjhajhdhfbaa.Tev
open Go Go.RowKit Go.Proofs Go.Proofs.Ytancjhajhdhfbaa.Q
set_option linter.unusedSectionVars false
set_option maxRecDepth 100000
set_option maxHeartbeats 0
set_option linter.unusedSimpArgs false
set_option linter.unusedVariables false
abbrev PairI := Int × Int
def pairC (z : PairI) : List C := [CI z.1, CI z.2]
def pairCs (l : List PairI) : List C := l.flatMap pairC
theorem pairC_len (z : PairI) : (pairC z).length = 2 := rfl
theorem pairCs_nil : pairCs [] = [] := rfl
theorem pairCs_snoc (l : List PairI) (x y : Int) : pairCs l ++ [CI x, CI y] = pairCs (l ++ [(x, y)]) := by simp [pairCs, pairC]
theorem pairCs_len : ∀ l : List PairI, (pairCs l).length = l.length * 2
  | [] => rfl
  | z :: l => by
    have ih := pairCs_len l
    simp only [pairCs, List.flatMap_cons, List.length_append, pairC_len, List.length_cons] at ih ⊢
    omega
/-- The pairs as numbers. -/
def pairsFI (q : List Int) : List Int → Nat → List PairI
  | [], _ => []
  | x :: p, i => (hitsI q x 0).map (fun k => ((i : Int), k)) ++ pairsFI q p (i + 1)
def castP (l : List (Nat × Nat)) : List PairI := l.map fun z => ((z.1 : Int), (z.2 : Int))
theorem hitsI_eq : ∀ (q : List Int) (x : Int) (k : Nat), hitsI q x k = (hits q x k).map fun n : Nat => (n : Int)
  | [], x, k => rfl
  | y :: q, x, k => by
    rw [hitsI, hits, hitsI_eq q x (k + 1)]
    split <;> rfl
theorem pairsFI_eq (q : List Int) : ∀ (p : List Int) (i : Nat), pairsFI q p i = castP (pairsF q p i)
  | [], i => rfl
  | x :: p, i => by
    rw [pairsFI, pairsF, castP, List.map_append, hitsI_eq, ← castP, pairsFI_eq q p (i + 1)]
    congr 1
    simp [castP]
theorem look_map (s : List RowP) (x : Int) : ∀ (i : Nat), keyIx (.int .i64 x) (mapC s) i = some (idxP s x i) := by
  induction s with
  | nil => intro i; rfl
  | cons e s ih =>
    intro i
    have ih := ih (i + 1)
    unfold mapC at ih ⊢
    simp only [List.map_cons, keyIx, idxP, if_true, ih]
    by_cases h : x = e.1
    · rw [if_pos h, if_pos h]
    · rw [if_neg h, if_neg h]
theorem look_val (s : List RowP) (x : Int) : ∃ cp, ((((idxP s x 0).bind ((mapC s)[·]?)).map (·.2.1)).getD (.s (some 0) 0 []) : C) = .s cp (lookP s x).length (ints (lookP s x)) := by
  unfold lookP
  cases hj : idxP s x 0 with
  | none => exact ⟨some 0, rfl⟩
  | some j =>
    obtain ⟨_, e, h1, _⟩ := idxP_some hj
    simp only [Nat.sub_zero] at h1
    refine ⟨none, ?_⟩
    simp [mapC, h1]
section
variable (es : List RowP) (cl : Nat)
theorem ol_Pairs16 (p : List Int) (N i : Nat) (cp : Option Nat) (h : List Int) (hh : h.length ≤ 400) (hcp : Option Nat) : ∀ (r : List Int) (j : Nat) (L : List PairI), h.drop j = r → L.length + r.length ≤ 200000 →
    lp E0 pr0 12 16 ⟨[(8, .mp 0), (11, .sl 1 0 L.length 2 none), (12, I i), (52, .sl 2 0 p.length 1 cp), (53, I N), (54, I i), (61, SL true hcp h.length (ints h)), (62, I h.length), (63, I j)], [(0, .mp (mapC es) cl), (1, .arr (pairCs L) 1 1), (2, .arr (ints p) 2 1)], 3⟩ =
      some (.exit 4, ⟨[(8, .mp 0), (11, .sl 1 0 (L ++ r.map fun k => ((i : Int), k)).length 2 none), (52, .sl 2 0 p.length 1 cp), (53, I N), (54, I i)], [(0, .mp (mapC es) cl), (1, .arr (pairCs (L ++ r.map fun k => ((i : Int), k))) 1 1), (2, .arr (ints p) 2 1)], 3⟩) := by
  intro r
  induction r with
  | nil =>
    intro j L h1 h2
    have h5 := drop_nil h1
    have h6 : ¬ (j : Int) < h.length := by omega
    rw [lp_eq lp12_16]
    simp (config := { maxSteps := 1000000 }) (disch := omega) only [push_cast, ↓reduceIte, Nat.reduceEqDiff, Nat.reduceAdd, Nat.reduceLT, Nat.reduceLeDiff, Nat.reduceBEq, Nat.reduceMul, Nat.reduceSub, Int.reduceToNat, Int.reduceEq, Int.reduceLT, Int.reduceLE, Int.reduceNeg, Int.reduceAdd, Int.reduceSub, Int.reduceMul, Try.f12, kr12, kp12_16, kp12_13, kp12_7, ow12_16, ow12_13, ow12_7, ty3, ty22, ty24, ty28, ty29, ty47, ty49, h6, List.map_nil, List.append_nil]
  | cons x r ih =>
    intro j L h1 h2
    obtain ⟨g1, g2, g3⟩ := drop_cons h1
    have g8 : (j : Int) < h.length := by omega
    simp only [List.length_cons] at h2
    have hl := pairCs_len L
    have ih' := ih (j + 1) (L ++ [((i : Int), x)]) g3 (by simp; omega)
    rw [List.append_assoc, show [((i : Int), x)] ++ r.map (fun k => ((i : Int), k)) = (x :: r).map fun k => ((i : Int), k) from rfl] at ih'
    simp only [cast1, List.length_append, List.length_cons, List.length_nil, Nat.zero_add, Nat.add_zero, Int.natCast_zero, Int.natCast_add, Int.zero_add, ints_1, ints_0, ] at ih'
    rw [lp_eq lp12_16]
    simp (config := { maxSteps := 1000000 }) (disch := omega) only [push_cast, ↓reduceIte, Nat.reduceEqDiff, Nat.reduceAdd, Nat.reduceLT, Nat.reduceLeDiff, Nat.reduceBEq, Nat.reduceMul, Nat.reduceSub, Int.reduceToNat, Int.reduceEq, Int.reduceLT, Int.reduceLE, Int.reduceNeg, Int.reduceAdd, Int.reduceSub, Int.reduceMul, Try.f12, kr12, kp12_16, kp12_13, kp12_7, ow12_16, ow12_13, ow12_7, ty3, ty22, ty24, ty28, ty29, ty47, ty49, g1, g8, getD_of g2, hl, pairCs_snoc, ih']
theorem ol_Pairs13 (p q : List Int) (hp : p.length ≤ 400) (hq : q.length ≤ 400) (hes : ∀ y, lookP es y = hitsI q y 0) : ∀ (r : List Int) (i : Nat) (L : List PairI) (cp : Option Nat), p.drop i = r → L.length + r.length * 400 ≤ 160000 →
    lp E0 pr0 12 13 ⟨[(8, .mp 0), (11, .sl 1 0 L.length 2 none), (52, .sl 2 0 p.length 1 cp), (53, I p.length), (54, I i)], [(0, .mp (mapC es) cl), (1, .arr (pairCs L) 1 1), (2, .arr (ints p) 2 1)], 3⟩ =
      some (.exit 2, ⟨[(11, .sl 0 0 (L ++ pairsFI q r i).length 2 none)], [(0, .arr (pairCs (L ++ pairsFI q r i)) 0 1)], 1⟩) := by
  intro r
  induction r with
  | nil =>
    intro i L cp h1 h2
    have h5 := drop_nil h1
    have h6 : ¬ (i : Int) < p.length := by omega
    rw [lp_eq lp12_13]
    simp (config := { maxSteps := 1000000 }) (disch := omega) only [push_cast, ↓reduceIte, Nat.reduceEqDiff, Nat.reduceAdd, Nat.reduceLT, Nat.reduceLeDiff, Nat.reduceBEq, Nat.reduceMul, Nat.reduceSub, Int.reduceToNat, Int.reduceEq, Int.reduceLT, Int.reduceLE, Int.reduceNeg, Int.reduceAdd, Int.reduceSub, Int.reduceMul, Try.f12, kr12, kp12_16, kp12_13, kp12_7, ow12_16, ow12_13, ow12_7, ty3, ty22, ty24, ty28, ty29, ty47, ty49, h6, pairsFI, List.append_nil]
  | cons x r ih =>
    intro i L cp h1 h2
    obtain ⟨g1, g2, g3⟩ := drop_cons h1
    have g8 : (i : Int) < p.length := by omega
    simp only [List.length_cons] at h2
    obtain ⟨hcp, hv⟩ := look_val es x
    have hk := look_map es x 0
    have hh : (hitsI q x 0).length ≤ 400 := by rw [hitsI_eq]; have := hits_len q x 0; simp; omega
    have hx := hes x
    rw [hx] at hv
    have h16 := ol_Pairs16 es cl p p.length i cp (hitsI q x 0) hh hcp (hitsI q x 0) 0 L rfl (by omega)
    have ih' := ih (i + 1) (L ++ (hitsI q x 0).map fun k => ((i : Int), k)) cp g3 (by simp; omega)
    rw [List.append_assoc, show (hitsI q x 0).map (fun k => ((i : Int), k)) ++ pairsFI q r (i + 1) = pairsFI q (x :: r) i from rfl] at ih'
    simp only [cast1, List.length_append, List.length_cons, List.length_nil, Nat.zero_add, Nat.add_zero, Int.natCast_zero, Int.natCast_add, Int.zero_add, ints_1, ints_0, ] at ih' h16
    simp only [show ∀ n l, SL true hcp n l = T.c (C.s hcp n l) from fun _ _ => rfl] at h16
    rw [lp_eq lp12_13]
    simp (config := { maxSteps := 1000000 }) (disch := omega) only [push_cast, ↓reduceIte, Nat.reduceEqDiff, Nat.reduceAdd, Nat.reduceLT, Nat.reduceLeDiff, Nat.reduceBEq, Nat.reduceMul, Nat.reduceSub, Int.reduceToNat, Int.reduceEq, Int.reduceLT, Int.reduceLE, Int.reduceNeg, Int.reduceAdd, Int.reduceSub, Int.reduceMul, Try.f12, kr12, kp12_16, kp12_13, kp12_7, ow12_16, ow12_13, ow12_7, ty3, ty22, ty24, ty28, ty29, ty47, ty49, g1, g8, getD_of g2, hk, hv, h16, ih']
end
/-- The pairs of two Refs that are right, as numbers. -/
def meetL (ar a : Int) (E S : List Int) (ar' b : Int) (S' : List Int) : List PairI := if (okR a E S ∧ okR b E S') ∧ ar = ar' then castP (pairsQ (placesR a E S) (placesR b E S')) else []
abbrev pairsRes (L : List PairI) (e : Int) : R := (.tup [.sl 0 0 L.length 2 none, I e], [pairCs L])
theorem pairs_ty : RowTy Try.prog 47 3 22 3 where
  m := by kernel_rfl
  k := by kernel_rfl
  z := fun w => Try.zeroValue22 w
  e := by kernel_rfl
  s := by kernel_rfl
  b := by kernel_rfl
  z1 := by kernel_rfl
  a := by kernel_rfl
  u := by kernel_rfl
noncomputable abbrev pBody : Code := codeOf Try.f12
noncomputable abbrev pLoop : Code := loopIn Try.f12 7
noncomputable abbrev pR8 : Code := sA (bB (sA (sB (sB pLoop))))
noncomputable abbrev pR9 : Code := sB (bB (sA (sB (sB pLoop))))
noncomputable abbrev pR10 : Code := sB (sB (sB pLoop))
noncomputable abbrev pBlock : Code := .block 0 (.loop (.seq (.region 7 #[opAt 0 (sA pLoop)] false) (.seq (.cond (.tmp 37) .skip (.exit 0)) (.seq (.block 1 (.seq (.region 8 #[opAt 0 pR8, opAt 1 pR8, opAt 2 pR8, opAt 3 pR8, opAt 4 pR8] false) (.region 9 #[opAt 0 pR9, opAt 1 pR9, opAt 2 pR9, opAt 3 pR9, opAt 4 pR9, opAt 5 pR9, opAt 6 pR9, opAt 7 pR9, opAt 8 pR9] false))) (.region 10 #[opAt 0 pR10, opAt 1 pR10] false)))))
noncomputable abbrev pA0 : Code := sA pBody
noncomputable abbrev pA1 : Code := sA (sB pBody)
noncomputable abbrev pA2 : Code := sA (sB (sB pBody))
noncomputable abbrev pA3 : Code := sA (sB (sB (sB pBody)))
noncomputable abbrev pA4 : Code := sA (sA (sB (sB (sB (sB pBody)))))
noncomputable abbrev pA5 : Code := sA (sB (sB (sB (sB (sB pBody)))))
noncomputable abbrev pA6 : Code := sA (sB (sB (sB (sB (sB (sB pBody))))))
noncomputable abbrev pA7 : Code := sA (sB (sB (sB (sB (sB (sB (sB pBody)))))))
theorem pBody_eq : pBody = .seq pA0 (.seq pA1 (.seq pA2 (.seq pA3 (.seq (.seq pA4 pBlock) (.seq pA5 (.seq pA6 (.seq pA7 .ret))))))) := by kernel_rfl
theorem pGood : GoodC Try.f12.ntmps pBody pBody := ⟨fun b hb => hb, by kernel_rfl⟩
theorem pPieces : (∀ c ∈ [pA0, pA1, pA2, pA3, pA4], GoodC Try.f12.ntmps pBody c) ∧ ∀ c ∈ [pA5, pA6, pA7, Code.ret], GoodC Try.f12.ntmps pBody c := by
  have h := pGood
  have h0 : GoodC Try.f12.ntmps pBody (.seq pA0 (.seq pA1 (.seq pA2 (.seq pA3 (.seq (.seq pA4 pBlock) (.seq pA5 (.seq pA6 (.seq pA7 .ret)))))))) := by rw [← pBody_eq]; exact h
  obtain ⟨g0, h1⟩ := good_seq h0
  obtain ⟨g1, h2⟩ := good_seq h1
  obtain ⟨g2, h3⟩ := good_seq h2
  obtain ⟨g3, h4⟩ := good_seq h3
  obtain ⟨g4, h5⟩ := good_seq h4
  obtain ⟨g4a, g4b⟩ := good_seq g4
  obtain ⟨g5, h6⟩ := good_seq h5
  obtain ⟨g6, h7⟩ := good_seq h6
  obtain ⟨g7, g8⟩ := good_seq h7
  refine ⟨fun c hc => ?_, fun c hc => ?_⟩
  · simp only [List.mem_cons, List.not_mem_nil, or_false] at hc
    rcases hc with rfl | rfl | rfl | rfl | rfl <;> assumption
  · simp only [List.mem_cons, List.not_mem_nil, or_false] at hc
    rcases hc with rfl | rfl | rfl | rfl <;> assumption
def tyOf2 : Op → TypeId
  | .binOp _ _ _ _ t => t
  | _ => 0
section
variable (ar a : Int) (b1 b2 b3 : Bool) (c1 c2 c3 : Option Nat) (E S : List Int) (ar' b : Int) (S' : List Int)
theorem pairs_first (h1 : okR a E S) (h2 : okR b E S') : ∃ SA : St, exec E0 (lim E0 pr0) 12 .nor ([pA0, pA1, pA2, pA3, pA4].map It.code) ⟨params 0 [SL b1 c1 E.length (ints E), Rf ar a b2 c2 S, Rf ar b b3 c3 S'], [], 0⟩ = some (.nor, SA) ∧
    (get SA.t 8 = .mp 2 ∧ get SA.t 34 = .sl 3 0 (placesR b E S').length 1 none ∧ get SA.t 35 = I (placesR b E S').length ∧ get SA.t 36 = I 0 ∧ get SA.t 0 = SL b1 c1 E.length (ints E) ∧ get SA.t 4 = .pt 0 0) ∧
    SA.o = [(3, .arr (ints (placesR b E S')) 3 1), (2, .mp [] 0), (1, .box [I ar, I b, SL b3 c3 S'.length (ints S')]), (0, .box [I ar, I a, SL b2 c2 S.length (ints S)])] ∧ SA.n = 4 := by
  have hE := h1.1.1.1.2
  have hS := h1.2.1
  have hS' := h2.2.1
  have v1 := fun b c b' c' => o_Valid ar a b b' c c' E S (by omega) (by omega)
  have v2 := fun b0 c b' c' => o_Valid ar b b0 b' c c' E S' (by omega) (by omega)
  have pl := fun b0 c b' c' => o_places ar b b0 b' c c' E S' h2
  have e : plcR b E S' = placesR b E S' := by unfold placesR; rw [if_pos h2]
  rw [e] at pl
  apply Exists.intro
  apply And.intro
  · simp (config := { maxSteps := 1000000 }) (disch := omega) only [push_cast, ↓reduceIte, Nat.reduceEqDiff, Nat.reduceAdd, Nat.reduceLT, Nat.reduceLeDiff, Nat.reduceBEq, Nat.reduceMul, Nat.reduceSub, Int.reduceToNat, Int.reduceEq, Int.reduceLT, Int.reduceLE, Int.reduceNeg, Int.reduceAdd, Int.reduceSub, Int.reduceMul, Try.f12, kr12, kp12_16, kp12_13, kp12_7, ow12_16, ow12_13, ow12_7, ty3, ty22, ty24, ty28, ty29, ty47, ty49, pA0, pA1, pA2, pA3, pA4, pBody, codeOf, Option.getD_some, List.map_cons, List.map_nil, sA, sB, v1, v2, h1, h2, pl, ne_eq]
    rfl
  · exact ⟨⟨rfl, rfl, rfl, rfl, rfl, rfl⟩, rfl, rfl⟩
theorem pairs_rest (h1 : okR a E S) (h2 : okR b E S') : ∃ SA : St, exec E0 (lim E0 pr0) 12 .nor ([pA5, pA6, pA7, Code.ret].map It.code) ⟨[(0, SL b1 c1 E.length (ints E)), (4, .pt 0 0), (8, .mp 2)],
      setO 2 (.mp (mapC (mapAll ([], 0) (placesR b E S') 0).1) (mapAll ([], 0) (placesR b E S') 0).2) [(3, .arr (ints (placesR b E S')) 3 1), (2, .mp [] 0), (1, .box [I ar, I b, SL b3 c3 S'.length (ints S')]), (0, .box [I ar, I a, SL b2 c2 S.length (ints S)])], 4⟩ = some (.ret, SA) ∧
    retT E0.P Try.f12.results.toList Try.f12.resultTypes.toList SA = some (pairsRes (castP (pairsQ (placesR a E S) (placesR b E S'))) 0) := by
  have hS := h1.2.1
  have pl := fun b0 c b' c' => o_places ar a b0 b' c c' E S h1
  have e : plcR a E S = placesR a E S := by unfold placesR; rw [if_pos h1]
  rw [e] at pl
  generalize hes : mapAll ([], 0) (placesR b E S') 0 = es
  have hlk : ∀ y, lookP es.1 y = hitsI (placesR b E S') y 0 := fun y => by
    rw [← hes, lookP_all]; rfl
  have hp := placesR_le a E S
  have hq := placesR_le b E S'
  have h13 := ol_Pairs13 es.1 es.2 (placesR a E S) (placesR b E S') hp hq hlk (placesR a E S) 0 [] none rfl (by simp; omega)
  rw [List.nil_append, show pairsFI (placesR b E S') (placesR a E S) 0 = castP (pairsQ (placesR a E S) (placesR b E S')) from pairsFI_eq _ _ 0] at h13
  simp only [cast1, List.length_append, List.length_cons, List.length_nil, Nat.zero_add, Nat.add_zero, Int.natCast_zero, Int.natCast_add, Int.zero_add, ints_1, ints_0, pairCs_nil] at h13
  apply Exists.intro
  apply And.intro
  · simp (config := { maxSteps := 1000000 }) (disch := omega) only [push_cast, ↓reduceIte, Nat.reduceEqDiff, Nat.reduceAdd, Nat.reduceLT, Nat.reduceLeDiff, Nat.reduceBEq, Nat.reduceMul, Nat.reduceSub, Int.reduceToNat, Int.reduceEq, Int.reduceLT, Int.reduceLE, Int.reduceNeg, Int.reduceAdd, Int.reduceSub, Int.reduceMul, Try.f12, kr12, kp12_16, kp12_13, kp12_7, ow12_16, ow12_13, ow12_7, ty3, ty22, ty24, ty28, ty29, ty47, ty49, pA5, pA6, pA7, pBody, codeOf, Option.getD_some, List.map_cons, List.map_nil, sA, sB, h1, pl, h13]
    rfl
  · have hr : rowAt (pairCs (castP (pairsQ (placesR a E S) (placesR b E S')))) 0 ((castP (pairsQ (placesR a E S) (placesR b E S'))).length * 2) = pairCs (castP (pairsQ (placesR a E S) (placesR b E S'))) := rowAt_all _ _ (pairCs_len _).symm
    simp (config := { maxSteps := 1000000 }) (disch := omega) only [push_cast, ↓reduceIte, Nat.reduceEqDiff, Nat.reduceAdd, Nat.reduceLT, Nat.reduceLeDiff, Nat.reduceBEq, Nat.reduceMul, Nat.reduceSub, Int.reduceToNat, Int.reduceEq, Int.reduceLT, Int.reduceLE, Int.reduceNeg, Int.reduceAdd, Int.reduceSub, Int.reduceMul, Try.f12, kr12, kp12_16, kp12_13, kp12_7, ow12_16, ow12_13, ow12_7, ty3, ty22, ty24, ty28, ty29, ty47, ty49, retT, pairsRes, pairCs_len, hr]
theorem pairs_walk (h1 : okR a E S) (h2 : okR b E S') : CallsR E0.P 12 [SL b1 c1 E.length (ints E), Rf ar a b2 c2 S, Rf ar b b3 c3 S'] (pairsRes (castP (pairsQ (placesR a E S) (placesR b E S'))) 0) := by
  obtain ⟨SA, hA, ⟨s8, s34, s35, s36, s0, s4⟩, sO, sN⟩ := pairs_first ar a b1 b2 b3 c1 c2 c3 E S b S' h1 h2
  obtain ⟨SB, hB, hR⟩ := pairs_rest ar a b1 b2 b3 c1 c2 c3 E S b S' h1 h2
  have hok : okFunc Try.f12 = true := by kernel_rfl
  have hlp := lim_loopOK (E := E0) (pr := pr0) mixed pr0_ok fn12 (show Try.f12.body = some pBody by kernel_rfl) hok
  have hnd : nodupB ((loopsOf pBody).map firstId) = true := by kernel_rfl
  have hq := placesR_le b E S'
  refine walk_fun (E := E0) fn12 (by kernel_rfl) (show Try.f12.body = some pBody by kernel_rfl) (Nat.le_of_ble_eq_true (by kernel_rfl)) fun w F => ?_
  rw [show ([pBody] : List Code) = [Code.seq pA0 (.seq pA1 (.seq pA2 (.seq pA3 (.seq (.seq pA4 pBlock) (.seq pA5 (.seq pA6 (.seq pA7 .ret)))))))] from congrArg (fun c => [c]) pBody_eq]
  refine walk_assoc [] (walk_assoc [pA0] (walk_assoc [pA0, pA1] (walk_assoc [pA0, pA1, pA2] (walk_assoc [pA0, pA1, pA2, pA3] (walk_assoc [pA0, pA1, pA2, pA3] (walk_assoc [pA0, pA1, pA2, pA3, pA4, pBlock] (walk_assoc [pA0, pA1, pA2, pA3, pA4, pBlock, pA5] (walk_assoc [pA0, pA1, pA2, pA3, pA4, pBlock, pA5, pA6] ?_))))))))
  refine walk_list (l := pBlock :: ([pA5, pA6, pA7, Code.ret] ++ [])) mixed (lim_sound mixed pr0_ok) hlp hnd [pA0, pA1, pA2, pA3, pA4] pPieces.1 hA ?_
  show WalkL E0.P Try.f12.ntmps w F (pBlock :: ([pA5, pA6, pA7, Code.ret] ++ [])) SA _
  refine rows_loop (t2 := tyOf2 (opAt 0 (sA pLoop)).op) (t3 := tyOf2 (opAt 0 pR10).op) (gg := 3) (gen := 1) pairs_ty ?_ ?_ ?_ ?_ ?_ ?_ ?_ ?_ ?_ ?_ ?_ ?_ ?_ ?_ ?_ ?_ ?_ ?_ ?_ ?_ ?_ ?_ ?_ ?_ ?_ ?_ ?_ ?_ ?_ ?_ ?_ ?_ ?_ ?_ ?_ ?_ ?_ ?_ ?_ ?_ s8 ?_ s34 ?_ s35 s36 (by omega) (T' := [(0, SL b1 c1 E.length (ints E)), (4, .pt 0 0), (8, .mp 2)]) ?_ ?_
  all_goals first | (rw [sO]; rfl) | kernel_rfl | exact ⟨by kernel_rfl, by kernel_rfl, by kernel_rfl, by kernel_rfl, by kernel_rfl⟩ | exact ⟨by kernel_rfl, by kernel_rfl, by kernel_rfl, by kernel_rfl, by kernel_rfl, by kernel_rfl, by kernel_rfl, by kernel_rfl, by kernel_rfl⟩ | exact Nat.le_of_ble_eq_true (by kernel_rfl) | skip
  · intro t
    by_cases t0 : t = 0
    · subst t0; exact .inr ⟨s0.symm, by unfold rowMod; omega⟩
    · by_cases t4 : t = 4
      · subst t4; exact .inr ⟨s4.symm, by unfold rowMod; omega⟩
      · by_cases t8 : t = 8
        · subst t8; exact .inr ⟨s8.symm, by unfold rowMod; omega⟩
        · left
          simp only [get, if_neg (Ne.symm t0), if_neg (Ne.symm t4), if_neg (Ne.symm t8)]
  · rw [sO, sN]
    exact walk_list (l := []) mixed (lim_sound mixed pr0_ok) hlp hnd [pA5, pA6, pA7, Code.ret] pPieces.2 hB ⟨.inr rfl, hR⟩
end
end Go.Proofs.Ytancjhajhdhfbaa.Tev
