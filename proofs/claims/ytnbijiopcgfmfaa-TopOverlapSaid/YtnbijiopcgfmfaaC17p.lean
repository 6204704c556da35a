/- overlap.Pairs: the loops behind the map, and the pairs as cells. -/
import Derived.Test.YtnbijiopcgfmfaaC17d
import Derived.Test.YtnbijiopcgfmfaaQPair
import Derived.Test.YtnbijiopcgfmfaaTevRows
import Derived.Test.YtnbijiopcgfmfaaTevPrim
import Derived.Test.YtnbijiopcgfmfaaShSort
namespace Go.Proofs.Ytnbijiopcgfmfaa.Tev
open Go Go.RowKit Go.Proofs Go.Proofs.Ytnbijiopcgfmfaa.Q
set_option linter.unusedSectionVars false
set_option maxRecDepth 100000
set_option maxHeartbeats 0
set_option linter.unusedSimpArgs false
set_option linter.unusedVariables false
abbrev PairI := Int × Int
def pairC (z : PairI) : List C := [CI z.1, CI z.2]
def pairCs (l : List PairI) : List C := l.flatMap pairC
theorem pairC_len (z : PairI) : (pairC z).length = 2 := rfl
theorem pairCs_nil : pairCs [] = [] := rfl
theorem pairCs_snoc (l : List PairI) (x y : Int) : pairCs l ++ [CI x, CI y] = pairCs (l ++ [(x, y)]) := by simp [pairCs, pairC]
theorem pairCs_len : ∀ l : List PairI, (pairCs l).length = l.length * 2
  | [] => rfl
  | z :: l => by
    have ih := pairCs_len l
    simp only [pairCs, List.flatMap_cons, List.length_append, pairC_len, List.length_cons] at ih ⊢
    omega
/-- The pairs as numbers. -/
def pairsFI (q : List Int) : List Int → Nat → List PairI
  | [], _ => []
  | x :: p, i => (hitsI q x 0).map (fun k => ((i : Int), k)) ++ pairsFI q p (i + 1)
def castP (l : List (Nat × Nat)) : List PairI := l.map fun z => ((z.1 : Int), (z.2 : Int))
theorem hitsI_eq : ∀ (q : List Int) (x : Int) (k : Nat), hitsI q x k = (hits q x k).map fun n : Nat => (n : Int)
  | [], x, k => rfl
  | y :: q, x, k => by
    rw [hitsI, hits, hitsI_eq q x (k + 1)]
    split <;> rfl
theorem pairsFI_eq (q : List Int) : ∀ (p : List Int) (i : Nat), pairsFI q p i = castP (pairsF q p i)
  | [], i => rfl
  | x :: p, i => by
    rw [pairsFI, pairsF, castP, List.map_append, hitsI_eq, ← castP, pairsFI_eq q p (i + 1)]
    congr 1
    simp [castP]
theorem look_map (s : List RowP) (x : Int) : ∀ (i : Nat), keyIx (.int .i64 x) (mapC s) i = some (idxP s x i) := by
  induction s with
  | nil => intro i; rfl
  | cons e s ih =>
    intro i
    have ih := ih (i + 1)
    unfold mapC at ih ⊢
    simp only [List.map_cons, keyIx, idxP, if_true, ih]
    by_cases h : x = e.1
    · rw [if_pos h, if_pos h]
    · rw [if_neg h, if_neg h]
theorem look_val (s : List RowP) (x : Int) : ∃ cp, ((((idxP s x 0).bind ((mapC s)[·]?)).map (·.2.1)).getD (.s (some 0) 0 []) : C) = .s cp (lookP s x).length (ints (lookP s x)) := by
  unfold lookP
  cases hj : idxP s x 0 with
  | none => exact ⟨some 0, rfl⟩
  | some j =>
    obtain ⟨_, e, h1, _⟩ := idxP_some hj
    simp only [Nat.sub_zero] at h1
    refine ⟨none, ?_⟩
    simp [mapC, h1]
section
variable (es : List RowP) (cl : Nat)
theorem ol_Pairs16 (p : List Int) (N i : Nat) (cp : Option Nat) (h : List Int) (hh : h.length ≤ 400) (hcp : Option Nat) : ∀ (r : List Int) (j : Nat) (L : List PairI), h.drop j = r → L.length + r.length ≤ 200000 →
    lp E0 pr0 50 16 ⟨[(8, .mp 0), (11, .sl 1 0 L.length 2 none), (12, I i), (52, .sl 2 0 p.length 1 cp), (53, I N), (54, I i), (61, SL true hcp h.length (ints h)), (62, I h.length), (63, I j)], [(0, .mp (mapC es) cl), (1, .arr (pairCs L) 1 1), (2, .arr (ints p) 2 1)], 3⟩ =
      some (.exit 4, ⟨[(8, .mp 0), (11, .sl 1 0 (L ++ r.map fun k => ((i : Int), k)).length 2 none), (52, .sl 2 0 p.length 1 cp), (53, I N), (54, I i)], [(0, .mp (mapC es) cl), (1, .arr (pairCs (L ++ r.map fun k => ((i : Int), k))) 1 1), (2, .arr (ints p) 2 1)], 3⟩) := by
  intro r
  induction r with
  | nil =>
    intro j L h1 h2
    have h5 := drop_nil h1
    have h6 : ¬ (j : Int) < h.length := by omega
    rw [lp_eq lp50_16]
    simp (config := { maxSteps := 1000000 }) (disch := omega) only [push_cast, ↓reduceIte, Nat.reduceEqDiff, Nat.reduceAdd, Nat.reduceLT, Nat.reduceLeDiff, Nat.reduceBEq, Nat.reduceMul, Nat.reduceSub, Int.reduceToNat, Int.reduceEq, Int.reduceLT, Int.reduceLE, Int.reduceNeg, Int.reduceAdd, Int.reduceSub, Int.reduceMul, Try.f50, kr50, kp50_16, kp50_13, kp50_7, ow50_16, ow50_13, ow50_7, ty3, ty25, ty28, ty30, ty98, ty119, ty120, h6, List.map_nil, List.append_nil]
  | cons x r ih =>
    intro j L h1 h2
    obtain ⟨g1, g2, g3⟩ := drop_cons h1
    have g8 : (j : Int) < h.length := by omega
    simp only [List.length_cons] at h2
    have hl := pairCs_len L
    have ih' := ih (j + 1) (L ++ [((i : Int), x)]) g3 (by simp; omega)
    rw [List.append_assoc, show [((i : Int), x)] ++ r.map (fun k => ((i : Int), k)) = (x :: r).map fun k => ((i : Int), k) from rfl] at ih'
    simp only [cast1, List.length_append, List.length_cons, List.length_nil, Nat.zero_add, Nat.add_zero, Int.natCast_zero, Int.natCast_add, Int.zero_add, ints_1, ints_0, ] at ih'
    rw [lp_eq lp50_16]
    simp (config := { maxSteps := 1000000 }) (disch := omega) only [push_cast, ↓reduceIte, Nat.reduceEqDiff, Nat.reduceAdd, Nat.reduceLT, Nat.reduceLeDiff, Nat.reduceBEq, Nat.reduceMul, Nat.reduceSub, Int.reduceToNat, Int.reduceEq, Int.reduceLT, Int.reduceLE, Int.reduceNeg, Int.reduceAdd, Int.reduceSub, Int.reduceMul, Try.f50, kr50, kp50_16, kp50_13, kp50_7, ow50_16, ow50_13, ow50_7, ty3, ty25, ty28, ty30, ty98, ty119, ty120, g1, g8, getD_of g2, hl, pairCs_snoc, ih']
theorem ol_Pairs13 (p q : List Int) (hp : p.length ≤ 400) (hq : q.length ≤ 400) (hes : ∀ y, lookP es y = hitsI q y 0) : ∀ (r : List Int) (i : Nat) (L : List PairI) (cp : Option Nat), p.drop i = r → L.length + r.length * 400 ≤ 160000 →
    lp E0 pr0 50 13 ⟨[(8, .mp 0), (11, .sl 1 0 L.length 2 none), (52, .sl 2 0 p.length 1 cp), (53, I p.length), (54, I i)], [(0, .mp (mapC es) cl), (1, .arr (pairCs L) 1 1), (2, .arr (ints p) 2 1)], 3⟩ =
      some (.exit 2, ⟨[(11, .sl 0 0 (L ++ pairsFI q r i).length 2 none)], [(0, .arr (pairCs (L ++ pairsFI q r i)) 0 1)], 1⟩) := by
  intro r
  induction r with
  | nil =>
    intro i L cp h1 h2
    have h5 := drop_nil h1
    have h6 : ¬ (i : Int) < p.length := by omega
    rw [lp_eq lp50_13]
    simp (config := { maxSteps := 1000000 }) (disch := omega) only [push_cast, ↓reduceIte, Nat.reduceEqDiff, Nat.reduceAdd, Nat.reduceLT, Nat.reduceLeDiff, Nat.reduceBEq, Nat.reduceMul, Nat.reduceSub, Int.reduceToNat, Int.reduceEq, Int.reduceLT, Int.reduceLE, Int.reduceNeg, Int.reduceAdd, Int.reduceSub, Int.reduceMul, Try.f50, kr50, kp50_16, kp50_13, kp50_7, ow50_16, ow50_13, ow50_7, ty3, ty25, ty28, ty30, ty98, ty119, ty120, h6, pairsFI, List.append_nil]
  | cons x r ih =>
    intro i L cp h1 h2
    obtain ⟨g1, g2, g3⟩ := drop_cons h1
    have g8 : (i : Int) < p.length := by omega
    simp only [List.length_cons] at h2
    obtain ⟨hcp, hv⟩ := look_val es x
    have hk := look_map es x 0
    have hh : (hitsI q x 0).length ≤ 400 := by rw [hitsI_eq]; have := hits_len q x 0; simp; omega
    have hx := hes x
    rw [hx] at hv
    have h16 := ol_Pairs16 es cl p p.length i cp (hitsI q x 0) hh hcp (hitsI q x 0) 0 L rfl (by omega)
    have ih' := ih (i + 1) (L ++ (hitsI q x 0).map fun k => ((i : Int), k)) cp g3 (by simp; omega)
    rw [List.append_assoc, show (hitsI q x 0).map (fun k => ((i : Int), k)) ++ pairsFI q r (i + 1) = pairsFI q (x :: r) i from rfl] at ih'
    simp only [cast1, List.length_append, List.length_cons, List.length_nil, Nat.zero_add, Nat.add_zero, Int.natCast_zero, Int.natCast_add, Int.zero_add, ints_1, ints_0, ] at ih' h16
    simp only [show ∀ n l, SL true hcp n l = T.c (C.s hcp n l) from fun _ _ => rfl] at h16
    rw [lp_eq lp50_13]
    simp (config := { maxSteps := 1000000 }) (disch := omega) only [push_cast, ↓reduceIte, Nat.reduceEqDiff, Nat.reduceAdd, Nat.reduceLT, Nat.reduceLeDiff, Nat.reduceBEq, Nat.reduceMul, Nat.reduceSub, Int.reduceToNat, Int.reduceEq, Int.reduceLT, Int.reduceLE, Int.reduceNeg, Int.reduceAdd, Int.reduceSub, Int.reduceMul, Try.f50, kr50, kp50_16, kp50_13, kp50_7, ow50_16, ow50_13, ow50_7, ty3, ty25, ty28, ty30, ty98, ty119, ty120, g1, g8, getD_of g2, hk, hv, h16, ih']
end
/-- The pairs of two Refs that are right, as numbers. -/
def meetL (ar a : Int) (E S : List Int) (ar' b : Int) (S' : List Int) : List PairI := if (okR a E S ∧ okR b E S') ∧ ar = ar' then castP (pairsQ (placesR a E S) (placesR b E S')) else []
abbrev pairsRes (L : List PairI) (e : Int) : R := (.tup [.sl 0 0 L.length 2 none, I e], [pairCs L])
theorem pairs_ty : RowTy Try.prog 119 3 28 3 where
  m := by kernel_rfl
  k := by kernel_rfl
  z := fun w => Try.zeroValue28 w
  e := by kernel_rfl
  s := by kernel_rfl
  b := by kernel_rfl
  z1 := by kernel_rfl
  a := by kernel_rfl
  u := by kernel_rfl
noncomputable abbrev pBody : Code := codeOf Try.f50
noncomputable abbrev pLoop : Code := loopIn Try.f50 7
noncomputable abbrev pR8 : Code := sA (bB (sA (sB (sB pLoop))))
noncomputable abbrev pR9 : Code := sB (bB (sA (sB (sB pLoop))))
noncomputable abbrev pR10 : Code := sB (sB (sB pLoop))
noncomputable abbrev pBlock : Code := .block 0 (.loop (.seq (.region 7 #[opAt 0 (sA pLoop)] false) (.seq (.cond (.tmp 37) .skip (.exit 0)) (.seq (.block 1 (.seq (.region 8 #[opAt 0 pR8, opAt 1 pR8, opAt 2 pR8, opAt 3 pR8, opAt 4 pR8] false) (.region 9 #[opAt 0 pR9, opAt 1 pR9, opAt 2 pR9, opAt 3 pR9, opAt 4 pR9, opAt 5 pR9, opAt 6 pR9, opAt 7 pR9, opAt 8 pR9] false))) (.region 10 #[opAt 0 pR10, opAt 1 pR10] false)))))
noncomputable abbrev pA0 : Code := sA pBody
noncomputable abbrev pA1 : Code := sA (sB pBody)
noncomputable abbrev pA2 : Code := sA (sB (sB pBody))
noncomputable abbrev pA3 : Code := sA (sB (sB (sB pBody)))
noncomputable abbrev pA4 : Code := sA (sA (sB (sB (sB (sB pBody)))))
noncomputable abbrev pA5 : Code := sA (sB (sB (sB (sB (sB pBody)))))
noncomputable abbrev pA6 : Code := sA (sB (sB (sB (sB (sB (sB pBody))))))
noncomputable abbrev pA7 : Code := sA (sB (sB (sB (sB (sB (sB (sB pBody)))))))
theorem pBody_eq : pBody = .seq pA0 (.seq pA1 (.seq pA2 (.seq pA3 (.seq (.seq pA4 pBlock) (.seq pA5 (.seq pA6 (.seq pA7 .ret))))))) := by kernel_rfl
theorem pGood : GoodC Try.f50.ntmps pBody pBody := ⟨fun b hb => hb, by kernel_rfl⟩
theorem pPieces : (∀ c ∈ [pA0, pA1, pA2, pA3, pA4], GoodC Try.f50.ntmps pBody c) ∧ ∀ c ∈ [pA5, pA6, pA7, Code.ret], GoodC Try.f50.ntmps pBody c := by
  have h := pGood
  have h0 : GoodC Try.f50.ntmps pBody (.seq pA0 (.seq pA1 (.seq pA2 (.seq pA3 (.seq (.seq pA4 pBlock) (.seq pA5 (.seq pA6 (.seq pA7 .ret)))))))) := by rw [← pBody_eq]; exact h
  obtain ⟨g0, h1⟩ := good_seq h0
  obtain ⟨g1, h2⟩ := good_seq h1
  obtain ⟨g2, h3⟩ := good_seq h2
  obtain ⟨g3, h4⟩ := good_seq h3
  obtain ⟨g4, h5⟩ := good_seq h4
  obtain ⟨g4a, g4b⟩ := good_seq g4
  obtain ⟨g5, h6⟩ := good_seq h5
  obtain ⟨g6, h7⟩ := good_seq h6
  obtain ⟨g7, g8⟩ := good_seq h7
  refine ⟨fun c hc => ?_, fun c hc => ?_⟩
  · simp only [List.mem_cons, List.not_mem_nil, or_false] at hc
    rcases hc with rfl | rfl | rfl | rfl | rfl <;> assumption
  · simp only [List.mem_cons, List.not_mem_nil, or_false] at hc
    rcases hc with rfl | rfl | rfl | rfl <;> assumption
def tyOf2 : Op → TypeId
  | .binOp _ _ _ _ t => t
  | _ => 0
section
variable (ar a : Int) (b1 b2 b3 : Bool) (c1 c2 c3 : Option Nat) (E S : List Int) (ar' b : Int) (S' : List Int)
theorem pairs_first (h1 : okR a E S) (h2 : okR b E S') : ∃ SA : St, exec E0 (lim E0 pr0) 50 .nor ([pA0, pA1, pA2, pA3, pA4].map It.code) ⟨params 0 [SL b1 c1 E.length (ints E), Rf ar a b2 c2 S, Rf ar b b3 c3 S'], [], 0⟩ = some (.nor, SA) ∧
    (get SA.t 8 = .mp 2 ∧ get SA.t 34 = .sl 3 0 (placesR b E S').length 1 none ∧ get SA.t 35 = I (placesR b E S').length ∧ get SA.t 36 = I 0 ∧ get SA.t 0 = SL b1 c1 E.length (ints E) ∧ get SA.t 4 = .pt 0 0) ∧
    SA.o = [(3, .arr (ints (placesR b E S')) 3 1), (2, .mp [] 0), (1, .box [I ar, I b, SL b3 c3 S'.length (ints S')]), (0, .box [I ar, I a, SL b2 c2 S.length (ints S)])] ∧ SA.n = 4 := by
  have hE := h1.1.1.1.2
  have hS := h1.2.1
  have hS' := h2.2.1
  have v1 := fun b c b' c' => o_Valid ar a b b' c c' E S (by omega) (by omega)
  have v2 := fun b0 c b' c' => o_Valid ar b b0 b' c c' E S' (by omega) (by omega)
  have pl := fun b0 c b' c' => o_places ar b b0 b' c c' E S' h2
  have e : plcR b E S' = placesR b E S' := by unfold placesR; rw [if_pos h2]
  rw [e] at pl
  apply Exists.intro
  apply And.intro
  · simp (config := { maxSteps := 1000000 }) (disch := omega) only [push_cast, ↓reduceIte, Nat.reduceEqDiff, Nat.reduceAdd, Nat.reduceLT, Nat.reduceLeDiff, Nat.reduceBEq, Nat.reduceMul, Nat.reduceSub, Int.reduceToNat, Int.reduceEq, Int.reduceLT, Int.reduceLE, Int.reduceNeg, Int.reduceAdd, Int.reduceSub, Int.reduceMul, Try.f50, kr50, kp50_16, kp50_13, kp50_7, ow50_16, ow50_13, ow50_7, ty3, ty25, ty28, ty30, ty98, ty119, ty120, pA0, pA1, pA2, pA3, pA4, pBody, codeOf, Option.getD_some, List.map_cons, List.map_nil, sA, sB, v1, v2, h1, h2, pl, ne_eq]
    rfl
  · exact ⟨⟨rfl, rfl, rfl, rfl, rfl, rfl⟩, rfl, rfl⟩
theorem pairs_rest (h1 : okR a E S) (h2 : okR b E S') : ∃ SA : St, exec E0 (lim E0 pr0) 50 .nor ([pA5, pA6, pA7, Code.ret].map It.code) ⟨[(0, SL b1 c1 E.length (ints E)), (4, .pt 0 0), (8, .mp 2)],
      setO 2 (.mp (mapC (mapAll ([], 0) (placesR b E S') 0).1) (mapAll ([], 0) (placesR b E S') 0).2) [(3, .arr (ints (placesR b E S')) 3 1), (2, .mp [] 0), (1, .box [I ar, I b, SL b3 c3 S'.length (ints S')]), (0, .box [I ar, I a, SL b2 c2 S.length (ints S)])], 4⟩ = some (.ret, SA) ∧
    retT E0.P Try.f50.results.toList Try.f50.resultTypes.toList SA = some (pairsRes (castP (pairsQ (placesR a E S) (placesR b E S'))) 0) := by
  have hS := h1.2.1
  have pl := fun b0 c b' c' => o_places ar a b0 b' c c' E S h1
  have e : plcR a E S = placesR a E S := by unfold placesR; rw [if_pos h1]
  rw [e] at pl
  generalize hes : mapAll ([], 0) (placesR b E S') 0 = es
  have hlk : ∀ y, lookP es.1 y = hitsI (placesR b E S') y 0 := fun y => by
    rw [← hes, lookP_all]; rfl
  have hp := placesR_le a E S
  have hq := placesR_le b E S'
  have h13 := ol_Pairs13 es.1 es.2 (placesR a E S) (placesR b E S') hp hq hlk (placesR a E S) 0 [] none rfl (by simp; omega)
  rw [List.nil_append, show pairsFI (placesR b E S') (placesR a E S) 0 = castP (pairsQ (placesR a E S) (placesR b E S')) from pairsFI_eq _ _ 0] at h13
  simp only [cast1, List.length_append, List.length_cons, List.length_nil, Nat.zero_add, Nat.add_zero, Int.natCast_zero, Int.natCast_add, Int.zero_add, ints_1, ints_0, pairCs_nil] at h13
  apply Exists.intro
  apply And.intro
  · simp (config := { maxSteps := 1000000 }) (disch := omega) only [push_cast, ↓reduceIte, Nat.reduceEqDiff, Nat.reduceAdd, Nat.reduceLT, Nat.reduceLeDiff, Nat.reduceBEq, Nat.reduceMul, Nat.reduceSub, Int.reduceToNat, Int.reduceEq, Int.reduceLT, Int.reduceLE, Int.reduceNeg, Int.reduceAdd, Int.reduceSub, Int.reduceMul, Try.f50, kr50, kp50_16, kp50_13, kp50_7, ow50_16, ow50_13, ow50_7, ty3, ty25, ty28, ty30, ty98, ty119, ty120, pA5, pA6, pA7, pBody, codeOf, Option.getD_some, List.map_cons, List.map_nil, sA, sB, h1, pl, h13]
    rfl
  · have hr : rowAt (pairCs (castP (pairsQ (placesR a E S) (placesR b E S')))) 0 ((castP (pairsQ (placesR a E S) (placesR b E S'))).length * 2) = pairCs (castP (pairsQ (placesR a E S) (placesR b E S'))) := rowAt_all _ _ (pairCs_len _).symm
    simp (config := { maxSteps := 1000000 }) (disch := omega) only [push_cast, ↓reduceIte, Nat.reduceEqDiff, Nat.reduceAdd, Nat.reduceLT, Nat.reduceLeDiff, Nat.reduceBEq, Nat.reduceMul, Nat.reduceSub, Int.reduceToNat, Int.reduceEq, Int.reduceLT, Int.reduceLE, Int.reduceNeg, Int.reduceAdd, Int.reduceSub, Int.reduceMul, Try.f50, kr50, kp50_16, kp50_13, kp50_7, ow50_16, ow50_13, ow50_7, ty3, ty25, ty28, ty30, ty98, ty119, ty120, retT, pairsRes, pairCs_len, hr]
theorem pairs_walk (h1 : okR a E S) (h2 : okR b E S') : CallsR E0.P 50 [SL b1 c1 E.length (ints E), Rf ar a b2 c2 S, Rf ar b b3 c3 S'] (pairsRes (castP (pairsQ (placesR a E S) (placesR b E S'))) 0) := by
  obtain ⟨SA, hA, ⟨s8, s34, s35, s36, s0, s4⟩, sO, sN⟩ := pairs_first ar a b1 b2 b3 c1 c2 c3 E S b S' h1 h2
  obtain ⟨SB, hB, hR⟩ := pairs_rest ar a b1 b2 b3 c1 c2 c3 E S b S' h1 h2
  have hok : okFunc Try.f50 = true := by kernel_rfl
  have hlp := lim_loopOK (E := E0) (pr := pr0) mixed pr0_ok fn50 (show Try.f50.body = some pBody by kernel_rfl) hok
  have hnd : nodupB ((loopsOf pBody).map firstId) = true := by kernel_rfl
  have hq := placesR_le b E S'
  refine walk_fun (E := E0) fn50 (by kernel_rfl) (show Try.f50.body = some pBody by kernel_rfl) (Nat.le_of_ble_eq_true (by kernel_rfl)) fun w F => ?_
  rw [show ([pBody] : List Code) = [Code.seq pA0 (.seq pA1 (.seq pA2 (.seq pA3 (.seq (.seq pA4 pBlock) (.seq pA5 (.seq pA6 (.seq pA7 .ret)))))))] from congrArg (fun c => [c]) pBody_eq]
  refine walk_assoc [] (walk_assoc [pA0] (walk_assoc [pA0, pA1] (walk_assoc [pA0, pA1, pA2] (walk_assoc [pA0, pA1, pA2, pA3] (walk_assoc [pA0, pA1, pA2, pA3] (walk_assoc [pA0, pA1, pA2, pA3, pA4, pBlock] (walk_assoc [pA0, pA1, pA2, pA3, pA4, pBlock, pA5] (walk_assoc [pA0, pA1, pA2, pA3, pA4, pBlock, pA5, pA6] ?_))))))))
  refine walk_list (l := pBlock :: ([pA5, pA6, pA7, Code.ret] ++ [])) mixed (lim_sound mixed pr0_ok) hlp hnd [pA0, pA1, pA2, pA3, pA4] pPieces.1 hA ?_
  show WalkL E0.P Try.f50.ntmps w F (pBlock :: ([pA5, pA6, pA7, Code.ret] ++ [])) SA _
  refine rows_loop (t2 := tyOf2 (opAt 0 (sA pLoop)).op) (t3 := tyOf2 (opAt 0 pR10).op) (gg := 3) (gen := 1) pairs_ty ?_ ?_ ?_ ?_ ?_ ?_ ?_ ?_ ?_ ?_ ?_ ?_ ?_ ?_ ?_ ?_ ?_ ?_ ?_ ?_ ?_ ?_ ?_ ?_ ?_ ?_ ?_ ?_ ?_ ?_ ?_ ?_ ?_ ?_ ?_ ?_ ?_ ?_ ?_ ?_ s8 ?_ s34 ?_ s35 s36 (by omega) (T' := [(0, SL b1 c1 E.length (ints E)), (4, .pt 0 0), (8, .mp 2)]) ?_ ?_
  all_goals first | (rw [sO]; rfl) | kernel_rfl | exact ⟨by kernel_rfl, by kernel_rfl, by kernel_rfl, by kernel_rfl, by kernel_rfl⟩ | exact ⟨by kernel_rfl, by kernel_rfl, by kernel_rfl, by kernel_rfl, by kernel_rfl, by kernel_rfl, by kernel_rfl, by kernel_rfl, by kernel_rfl⟩ | exact Nat.le_of_ble_eq_true (by kernel_rfl) | skip
  · intro t
    by_cases t0 : t = 0
    · subst t0; exact .inr ⟨s0.symm, by unfold rowMod; omega⟩
    · by_cases t4 : t = 4
      · subst t4; exact .inr ⟨s4.symm, by unfold rowMod; omega⟩
      · by_cases t8 : t = 8
        · subst t8; exact .inr ⟨s8.symm, by unfold rowMod; omega⟩
        · left
          simp only [get, if_neg (Ne.symm t0), if_neg (Ne.symm t4), if_neg (Ne.symm t8)]
  · rw [sO, sN]
    exact walk_list (l := []) mixed (lim_sound mixed pr0_ok) hlp hnd [pA5, pA6, pA7, Code.ret] pPieces.2 hB ⟨.inr rfl, hR⟩
end

section
variable (ar a : Int) (b1 b2 b3 : Bool) (c1 c2 c3 : Option Nat) (E S : List Int) (ar' b : Int) (S' : List Int)
theorem o_PairsE (hE : (E.length : Int) ≤ 9223372036854775806) (hS : (S.length : Int) ≤ 9223372036854775806) (hS' : (S'.length : Int) ≤ 9223372036854775806) (h : ¬ ((okR a E S ∧ okR b E S') ∧ ar = ar')) :
    CALL 50 [SL b1 c1 E.length (ints E), Rf ar a b2 c2 S, Rf ar' b b3 c3 S'] = some (pairsRes [] (errRR a E S b S')) := by
  have v1 := fun b c b' c' => o_Valid ar a b b' c c' E S hE hS
  have v2 := fun b0 c b' c' => o_Valid ar' b b0 b' c c' E S' hE hS'
  unfold errRR pairsRes
  refine lim_run (fn := Try.f50) fn50 rfl body50 (Nat.le_of_ble_eq_true rfl) ok50 ?_
  by_cases h1 : okR a E S
  · by_cases h2 : okR b E S'
    · have h3 : ¬ ar = ar' := fun q => h ⟨⟨h1, h2⟩, q⟩
      simp (config := { maxSteps := 1000000 }) (disch := omega) only [push_cast, ↓reduceIte, Nat.reduceEqDiff, Nat.reduceAdd, Nat.reduceLT, Nat.reduceLeDiff, Nat.reduceBEq, Nat.reduceMul, Nat.reduceSub, Int.reduceToNat, Int.reduceEq, Int.reduceLT, Int.reduceLE, Int.reduceNeg, Int.reduceAdd, Int.reduceSub, Int.reduceMul, Try.f50, kr50, kp50_16, kp50_13, kp50_7, ow50_16, ow50_13, ow50_7, ty3, ty25, ty28, ty30, ty98, ty119, ty120, v1, v2, h1, h2, h3, pairCs_nil, ne_eq]
    · simp (config := { maxSteps := 1000000 }) (disch := omega) only [push_cast, ↓reduceIte, Nat.reduceEqDiff, Nat.reduceAdd, Nat.reduceLT, Nat.reduceLeDiff, Nat.reduceBEq, Nat.reduceMul, Nat.reduceSub, Int.reduceToNat, Int.reduceEq, Int.reduceLT, Int.reduceLE, Int.reduceNeg, Int.reduceAdd, Int.reduceSub, Int.reduceMul, Try.f50, kr50, kp50_16, kp50_13, kp50_7, ow50_16, ow50_13, ow50_7, ty3, ty25, ty28, ty30, ty98, ty119, ty120, v1, v2, h1, h2, pairCs_nil, ne_eq]
  · simp (config := { maxSteps := 1000000 }) (disch := omega) only [push_cast, ↓reduceIte, Nat.reduceEqDiff, Nat.reduceAdd, Nat.reduceLT, Nat.reduceLeDiff, Nat.reduceBEq, Nat.reduceMul, Nat.reduceSub, Int.reduceToNat, Int.reduceEq, Int.reduceLT, Int.reduceLE, Int.reduceNeg, Int.reduceAdd, Int.reduceSub, Int.reduceMul, Try.f50, kr50, kp50_16, kp50_13, kp50_7, ow50_16, ow50_13, ow50_7, ty3, ty25, ty28, ty30, ty98, ty119, ty120, v1, v2, h1, pairCs_nil, ne_eq]
theorem pairs_all (hE : (E.length : Int) ≤ 9223372036854775806) (hS : (S.length : Int) ≤ 9223372036854775806) (hS' : (S'.length : Int) ≤ 9223372036854775806) :
    CallsR E0.P 50 [SL b1 c1 E.length (ints E), Rf ar a b2 c2 S, Rf ar' b b3 c3 S'] (pairsRes (meetL ar a E S ar' b S') (errRR a E S b S')) := by
  unfold meetL
  by_cases h : (okR a E S ∧ okR b E S') ∧ ar = ar'
  · obtain ⟨⟨h1, h2⟩, rfl⟩ := h
    rw [if_pos ⟨⟨h1, h2⟩, rfl⟩, show errRR a E S b S' = 0 from if_pos ⟨h1, h2⟩]
    exact pairs_walk ar a b1 b2 b3 c1 c2 c3 E S b S' h1 h2
  · rw [if_neg h]
    exact lim_sound mixed pr0_ok _ _ _ (o_PairsE ar a b1 b2 b3 c1 c2 c3 E S ar' b S' hE hS hS' h)
noncomputable abbrev wBody : Code := codeOf Try.f24
noncomputable abbrev wA0 : Code := sA wBody
noncomputable abbrev wA1 : Code := sA (sB wBody)
noncomputable abbrev wA2 : Code := sA (sB (sB wBody))
noncomputable abbrev wR4 : Code := sA (sB (sB (sB wBody)))
noncomputable abbrev wR5 : Code := sA (sB (sB (sB (sB wBody))))
noncomputable abbrev wR6 : Code := sA (sB (sB (sB (sB (sB wBody)))))
theorem wBody_eq : wBody = .seq wA0 (.seq wA1 (.seq wA2 (.seq wR4 (.seq wR5 (.seq wR6 .ret))))) := by kernel_rfl
theorem wR4_eq : wR4 = .region 4 #[opAt 0 wR4, opAt 1 wR4] false := by kernel_rfl
theorem wR6_eq : wR6 = .region 6 #[opAt 0 wR6, opAt 1 wR6, opAt 2 wR6, opAt 3 wR6, opAt 4 wR6, opAt 5 wR6, opAt 6 wR6] false := by kernel_rfl
theorem dst_lt {o : Oper} {d m : Nat} (h : o.dst = some d) (hl : d < m) : ∀ t, o.dst = some t → t < m := fun t q => by rw [h] at q; cases q; exact hl
theorem wGood : GoodC Try.f24.ntmps wBody wBody := ⟨fun b hb => hb, by kernel_rfl⟩
theorem wPieces : (∀ c ∈ [wA0, wA1, wA2], GoodC Try.f24.ntmps wBody c) ∧ ∀ c ∈ [wR5], GoodC Try.f24.ntmps wBody c := by
  have h := wGood
  have h0 : GoodC Try.f24.ntmps wBody (.seq wA0 (.seq wA1 (.seq wA2 (.seq wR4 (.seq wR5 (.seq wR6 .ret)))))) := by rw [← wBody_eq]; exact h
  obtain ⟨g0, h1⟩ := good_seq h0
  obtain ⟨g1, h2⟩ := good_seq h1
  obtain ⟨g2, h3⟩ := good_seq h2
  obtain ⟨g3, h4⟩ := good_seq h3
  obtain ⟨g4, h5⟩ := good_seq h4
  refine ⟨fun c hc => ?_, fun c hc => ?_⟩
  · simp only [List.mem_cons, List.not_mem_nil, or_false] at hc
    rcases hc with rfl | rfl | rfl <;> assumption
  · simp only [List.mem_cons, List.not_mem_nil, or_false] at hc
    rcases hc with rfl <;> assumption
/-- The state when all places are at hand. -/
noncomputable abbrev twS : St := ⟨[(16, B false), (16, B false), (15, I 0), (7, I 0), (6, .sl 1 0 (placesR a E S).length 1 none), (14, I 0), (13, .sl 1 0 (placesR a E S).length 1 none),
      (9, .tup [.sl 1 0 (placesR a E S).length 1 none, I 0]), (12, .tup [.sl 1 0 (placesR a E S).length 1 none, I 0]), (11, Rf ar a b2 c2 S), (10, SL b1 c1 E.length (ints E)), (5, I 0), (4, B false), (3, .pt 0 0), (0, SL b1 c1 E.length (ints E)), (1, Rf ar a b2 c2 S)],
    [(1, .arr (ints (placesR a E S)) 1 1), (0, .box [I ar, I a, SL b2 c2 S.length (ints S)])], 2⟩
theorem twice_first (h1 : okR a E S) : exec E0 (lim E0 pr0) 24 .nor ([wA0, wA1, wA2].map It.code) ⟨params 0 [SL b1 c1 E.length (ints E), Rf ar a b2 c2 S], [], 0⟩ = some (.nor, twS ar a b1 b2 c1 c2 E S) := by
  have hE := h1.1.1.1.2
  have hS := h1.2.1
  have hp := fun b c b' c' => o_Places ar a b b' c c' E S (by omega) (by omega)
  have he : errR a E S = 0 := if_pos h1
  rw [he] at hp
  simp (config := { maxSteps := 1000000 }) (disch := omega) only [push_cast, ↓reduceIte, Nat.reduceEqDiff, Nat.reduceAdd, Nat.reduceLT, Nat.reduceLeDiff, Nat.reduceBEq, Nat.reduceMul, Nat.reduceSub, Int.reduceToNat, Int.reduceEq, Int.reduceLT, Int.reduceLE, Int.reduceNeg, Int.reduceAdd, Int.reduceSub, Int.reduceMul, Try.f24, kr24, ty3, ty4, ty25, ty28, ty30, tb4, wA0, wA1, wA2, wBody, codeOf, sA, sB, hp, ne_eq]
theorem twice_walk (h1 : okR a E S) : CallsR E0.P 24 [SL b1 c1 E.length (ints E), Rf ar a b2 c2 S] (.tup [B (decide (¬ (placesR a E S).Nodup)), I 0], []) := by
  have hA := twice_first ar a b1 b2 c1 c2 E S h1
  have hok : okFunc Try.f24 = true := by kernel_rfl
  have hlp := lim_loopOK (E := E0) (pr := pr0) mixed pr0_ok fn24 (show Try.f24.body = some wBody by kernel_rfl) hok
  have hnd : nodupB ((loopsOf wBody).map firstId) = true := by kernel_rfl
  have hq := placesR_le a E S
  have htw := twice_iff (placesR a E S)
  have hsl := sortQ_len (placesR a E S)
  have hcl := cpt_le (sortQ (placesR a E S))
  refine walk_fun (E := E0) fn24 (by kernel_rfl) (show Try.f24.body = some wBody by kernel_rfl) (Nat.le_of_ble_eq_true (by kernel_rfl)) fun w F => ?_
  rw [show ([wBody] : List Code) = [Code.seq wA0 (.seq wA1 (.seq wA2 (.seq wR4 (.seq wR5 (.seq wR6 .ret)))))] from congrArg (fun c => [c]) wBody_eq]
  refine walk_assoc [] (walk_assoc [wA0] (walk_assoc [wA0, wA1] (walk_assoc [wA0, wA1, wA2] (walk_assoc [wA0, wA1, wA2, wR4] (walk_assoc [wA0, wA1, wA2, wR4, wR5] ?_)))))
  refine walk_list (l := [wR4, wR5, wR6, .ret]) mixed (lim_sound mixed pr0_ok) hlp hnd [wA0, wA1, wA2] wPieces.1 hA ?_
  show WalkL E0.P Try.f24.ntmps w F [wR4, wR5, wR6, .ret] (twS ar a b1 b2 c1 c2 E S) _
  rw [wR4_eq]
  refine walk_region ?_
  refine walko_op (lim_sound mixed pr0_ok) (by kernel_rfl) (dst_lt (d := 18) (by kernel_rfl) (Nat.le_of_ble_eq_true (by kernel_rfl))) (S' := ?_) ?_ ?_
  rotate_left
  · simp (config := { maxSteps := 1000000 }) (disch := omega) only [push_cast, ↓reduceIte, Nat.reduceEqDiff, Nat.reduceAdd, Nat.reduceLT, Nat.reduceLeDiff, Nat.reduceBEq, Nat.reduceMul, Nat.reduceSub, Int.reduceToNat, Int.reduceEq, Int.reduceLT, Int.reduceLE, Int.reduceNeg, Int.reduceAdd, Int.reduceSub, Int.reduceMul, Try.f24, kr24, ty3, ty4, ty25, ty28, ty30, tb4, opA, opAt, wR6, wR5, wR4, wBody, sA, sB, hsl, St.add]
    rfl
  refine walko_sort sort_ok (ats := #[28]) (t := 18) (by kernel_rfl) (by kernel_rfl) (dst_lt (d := 19) (by kernel_rfl) (Nat.le_of_ble_eq_true (by kernel_rfl))) (p := 1) (g := 1) (gen := 1) (xs := placesR a E S) (cap := none) rfl rfl (by omega) rfl ?_
  show WalkL E0.P Try.f24.ntmps w F [wR5, wR6, .ret] _ _
  refine walk_te (e := .nor) mixed (lim_sound mixed pr0_ok) hlp hnd (wPieces.2 wR5 (by simp)).1 (wPieces.2 wR5 (by simp)).2 (S' := ?_) ?_ ?_
  rotate_left
  · simp (config := { maxSteps := 1000000 }) (disch := omega) only [push_cast, ↓reduceIte, Nat.reduceEqDiff, Nat.reduceAdd, Nat.reduceLT, Nat.reduceLeDiff, Nat.reduceBEq, Nat.reduceMul, Nat.reduceSub, Int.reduceToNat, Int.reduceEq, Int.reduceLT, Int.reduceLE, Int.reduceNeg, Int.reduceAdd, Int.reduceSub, Int.reduceMul, Try.f24, kr24, ty3, ty4, ty25, ty28, ty30, tb4, opA, opAt, wR6, wR5, wR4, wBody, sA, sB, hsl, St.add]
    rfl
  show WalkL E0.P Try.f24.ntmps w F [wR6, .ret] _ _
  rw [wR6_eq]
  refine walk_region ?_
  refine walko_op (lim_sound mixed pr0_ok) (by kernel_rfl) (dst_lt (d := 22) (by kernel_rfl) (Nat.le_of_ble_eq_true (by kernel_rfl))) (S' := ?_) ?_ ?_
  rotate_left
  · simp (config := { maxSteps := 1000000 }) (disch := omega) only [push_cast, ↓reduceIte, Nat.reduceEqDiff, Nat.reduceAdd, Nat.reduceLT, Nat.reduceLeDiff, Nat.reduceBEq, Nat.reduceMul, Nat.reduceSub, Int.reduceToNat, Int.reduceEq, Int.reduceLT, Int.reduceLE, Int.reduceNeg, Int.reduceAdd, Int.reduceSub, Int.reduceMul, Try.f24, kr24, ty3, ty4, ty25, ty28, ty30, tb4, opA, opAt, wR6, wR5, wR4, wBody, sA, sB, hsl, St.add]
    rfl
  refine walko_comp comp_ok (ats := #[28]) (t := 22) (by kernel_rfl) (by kernel_rfl) (dst_lt (d := 23) (by kernel_rfl) (Nat.le_of_ble_eq_true (by kernel_rfl))) (p := 1) (g := 1) (gen := 1) (xs := sortQ (placesR a E S)) (cap := none) (by simp only [get, hsl]; rfl) rfl (by omega) rfl ?_
  refine walko_op (lim_sound mixed pr0_ok) (by kernel_rfl) (dst_lt (d := 24) (by kernel_rfl) (Nat.le_of_ble_eq_true (by kernel_rfl))) (S' := ?_) ?_ ?_
  rotate_left
  · simp (config := { maxSteps := 1000000 }) (disch := omega) only [push_cast, ↓reduceIte, Nat.reduceEqDiff, Nat.reduceAdd, Nat.reduceLT, Nat.reduceLeDiff, Nat.reduceBEq, Nat.reduceMul, Nat.reduceSub, Int.reduceToNat, Int.reduceEq, Int.reduceLT, Int.reduceLE, Int.reduceNeg, Int.reduceAdd, Int.reduceSub, Int.reduceMul, Try.f24, kr24, ty3, ty4, ty25, ty28, ty30, tb4, opA, opAt, wR6, wR5, wR4, wBody, sA, sB, hsl, St.add]
    rfl
  refine walko_op (lim_sound mixed pr0_ok) (by kernel_rfl) (dst_lt (d := 25) (by kernel_rfl) (Nat.le_of_ble_eq_true (by kernel_rfl))) (S' := ?_) ?_ ?_
  rotate_left
  · simp (config := { maxSteps := 1000000 }) (disch := omega) only [push_cast, ↓reduceIte, Nat.reduceEqDiff, Nat.reduceAdd, Nat.reduceLT, Nat.reduceLeDiff, Nat.reduceBEq, Nat.reduceMul, Nat.reduceSub, Int.reduceToNat, Int.reduceEq, Int.reduceLT, Int.reduceLE, Int.reduceNeg, Int.reduceAdd, Int.reduceSub, Int.reduceMul, Try.f24, kr24, ty3, ty4, ty25, ty28, ty30, tb4, opA, opAt, wR6, wR5, wR4, wBody, sA, sB, hsl, St.add]
    rfl
  refine walko_op (lim_sound mixed pr0_ok) (by kernel_rfl) (dst_lt (d := 26) (by kernel_rfl) (Nat.le_of_ble_eq_true (by kernel_rfl))) (S' := ?_) ?_ ?_
  rotate_left
  · simp (config := { maxSteps := 1000000 }) (disch := omega) only [push_cast, ↓reduceIte, Nat.reduceEqDiff, Nat.reduceAdd, Nat.reduceLT, Nat.reduceLeDiff, Nat.reduceBEq, Nat.reduceMul, Nat.reduceSub, Int.reduceToNat, Int.reduceEq, Int.reduceLT, Int.reduceLE, Int.reduceNeg, Int.reduceAdd, Int.reduceSub, Int.reduceMul, Try.f24, kr24, ty3, ty4, ty25, ty28, ty30, tb4, opA, opAt, wR6, wR5, wR4, wBody, sA, sB, hsl, St.add]
    rfl
  refine walko_op (lim_sound mixed pr0_ok) (by kernel_rfl) (dst_lt (d := 4) (by kernel_rfl) (Nat.le_of_ble_eq_true (by kernel_rfl))) (S' := ?_) ?_ ?_
  rotate_left
  · simp (config := { maxSteps := 1000000 }) (disch := omega) only [push_cast, ↓reduceIte, Nat.reduceEqDiff, Nat.reduceAdd, Nat.reduceLT, Nat.reduceLeDiff, Nat.reduceBEq, Nat.reduceMul, Nat.reduceSub, Int.reduceToNat, Int.reduceEq, Int.reduceLT, Int.reduceLE, Int.reduceNeg, Int.reduceAdd, Int.reduceSub, Int.reduceMul, Try.f24, kr24, ty3, ty4, ty25, ty28, ty30, tb4, opA, opAt, wR6, wR5, wR4, wBody, sA, sB, hsl, St.add]
    rfl
  refine walko_op (lim_sound mixed pr0_ok) (by kernel_rfl) (dst_lt (d := 5) (by kernel_rfl) (Nat.le_of_ble_eq_true (by kernel_rfl))) (S' := ?_) ?_ ?_
  rotate_left
  · simp (config := { maxSteps := 1000000 }) (disch := omega) only [push_cast, ↓reduceIte, Nat.reduceEqDiff, Nat.reduceAdd, Nat.reduceLT, Nat.reduceLeDiff, Nat.reduceBEq, Nat.reduceMul, Nat.reduceSub, Int.reduceToNat, Int.reduceEq, Int.reduceLT, Int.reduceLE, Int.reduceNeg, Int.reduceAdd, Int.reduceSub, Int.reduceMul, Try.f24, kr24, ty3, ty4, ty25, ty28, ty30, tb4, opA, opAt, wR6, wR5, wR4, wBody, sA, sB, hsl, St.add]
    rfl
  show WalkL E0.P Try.f24.ntmps w F [.ret] _ _
  refine walk_ret ⟨.inr rfl, ?_⟩
  have hd : decide (((cpt (sortQ (placesR a E S))).length : Int) < (placesR a E S).length) = decide (¬ (placesR a E S).Nodup) := by
    rw [decide_eq_decide, ← htw]; omega
  simp (config := { maxSteps := 1000000 }) (disch := omega) only [push_cast, ↓reduceIte, Nat.reduceEqDiff, Nat.reduceAdd, Nat.reduceLT, Nat.reduceLeDiff, Nat.reduceBEq, Nat.reduceMul, Nat.reduceSub, Int.reduceToNat, Int.reduceEq, Int.reduceLT, Int.reduceLE, Int.reduceNeg, Int.reduceAdd, Int.reduceSub, Int.reduceMul, Try.f24, kr24, ty3, ty4, ty25, ty28, ty30, tb4, retT, hd, St.add]
theorem twice_all (hE : (E.length : Int) ≤ 9223372036854775806) (hS : (S.length : Int) ≤ 9223372036854775806) :
    CallsR E0.P 24 [SL b1 c1 E.length (ints E), Rf ar a b2 c2 S] (.tup [B (decide (¬ (placesR a E S).Nodup)), I (errR a E S)], []) := by
  by_cases h : okR a E S
  · rw [show errR a E S = 0 from if_pos h]
    exact twice_walk ar a b1 b2 c1 c2 E S h
  · rw [show errR a E S = 2 from if_neg h, show placesR a E S = [] from if_neg h]
    have hp := fun b c b' c' => o_Places ar a b b' c c' E S hE hS
    rw [show errR a E S = 2 from if_neg h, show placesR a E S = [] from if_neg h] at hp
    refine lim_sound mixed pr0_ok _ _ _ ?_
    show CALL 24 _ = _
    refine lim_run (fn := Try.f24) fn24 rfl body24 (Nat.le_of_ble_eq_true rfl) ok24 ?_
    simp (config := { maxSteps := 1000000 }) (disch := omega) only [push_cast, ↓reduceIte, Nat.reduceEqDiff, Nat.reduceAdd, Nat.reduceLT, Nat.reduceLeDiff, Nat.reduceBEq, Nat.reduceMul, Nat.reduceSub, Int.reduceToNat, Int.reduceEq, Int.reduceLT, Int.reduceLE, Int.reduceNeg, Int.reduceAdd, Int.reduceSub, Int.reduceMul, Try.f24, kr24, ty3, ty4, ty25, ty28, ty30, tb4, hp, ne_eq, List.nodup_nil]
end
/-- The functions that are told later. -/
def NEW : List Nat := [122, 19, 120, 109, 108, 110, 88, 77, 47, 48, 16, 26, 4, 117, 103]
def Sp1 (f : FuncId) (xs : List T) (r : R) : Prop :=
  (f = 50 ∧ ∃ (ar a : Int) (b1 b2 b3 : Bool) (c1 c2 c3 : Option Nat) (E S : List Int) (ar' b : Int) (S' : List Int), (E.length : Int) ≤ 9223372036854775806 ∧ (S.length : Int) ≤ 9223372036854775806 ∧ (S'.length : Int) ≤ 9223372036854775806 ∧
    xs = [SL b1 c1 E.length (ints E), Rf ar a b2 c2 S, Rf ar' b b3 c3 S'] ∧ r = pairsRes (meetL ar a E S ar' b S') (errRR a E S b S')) ∨
  (f = 24 ∧ ∃ (ar a : Int) (b1 b2 : Bool) (c1 c2 : Option Nat) (E S : List Int), (E.length : Int) ≤ 9223372036854775806 ∧ (S.length : Int) ≤ 9223372036854775806 ∧
    xs = [SL b1 c1 E.length (ints E), Rf ar a b2 c2 S] ∧ r = (.tup [B (decide (¬ (placesR a E S).Nodup)), I (errR a E S)], []))
theorem Sp1_ok (f : FuncId) (xs : List T) (r : R) (h : Sp1 f xs r) : CallsR E0.P f xs r := by
  rcases h with ⟨rfl, ar, a, b1, b2, b3, c1, c2, c3, E, S, ar', b, S', h1, h2, h3, rfl, rfl⟩ | ⟨rfl, ar, a, b1, b2, c1, c2, E, S, h1, h2, rfl, rfl⟩
  · exact pairs_all ar a b1 b2 b3 c1 c2 c3 E S ar' b S' h1 h2 h3
  · exact twice_all ar a b1 b2 c1 c2 E S h1 h2
theorem SLi_inj {b b' : Bool} {c c' : Option Nat} {l l' : List Int} (h : SL b c l.length (ints l) = SL b' c' l'.length (ints l')) : l = l' := ints_inj (SL_inj h)
theorem Rf_inj {ar ar' a a' : Int} {b b' : Bool} {c c' : Option Nat} {l l' : List Int} (h : Rf ar a b c l = Rf ar' a' b' c' l') : ar = ar' ∧ a = a' ∧ l = l' := by
  simp only [T.agg.injEq, List.cons.injEq, T.c.injEq, C.v.injEq, Value.int.injEq, true_and, and_true] at h
  exact ⟨h.1, h.2.1, SLi_inj h.2.2⟩
theorem Sp1_one {f : FuncId} {xs : List T} {r r' : R} (h : Sp1 f xs r) (h' : Sp1 f xs r') : r' = r := by
  rcases h with ⟨rfl, ar, a, b1, b2, b3, c1, c2, c3, E, S, ar', b, S', h1, h2, h3, rfl, rfl⟩ | ⟨rfl, ar, a, b1, b2, c1, c2, E, S, h1, h2, rfl, rfl⟩
  · rcases h' with ⟨_, ar1, a1, b11, b21, b31, c11, c21, c31, E1, S1, ar1', b1', S1', _, _, _, e, rfl⟩ | ⟨q, _⟩
    · simp only [List.cons.injEq, and_true] at e
      obtain ⟨e1, e2, e3⟩ := e
      obtain rfl := SLi_inj e1
      obtain ⟨rfl, rfl, rfl⟩ := Rf_inj e2
      obtain ⟨rfl, rfl, rfl⟩ := Rf_inj e3
      rfl
    · exact absurd q (by decide)
  · rcases h' with ⟨q, _⟩ | ⟨_, ar1, a1, b11, b21, c11, c21, E1, S1, _, _, e, rfl⟩
    · exact absurd q (by decide)
    · simp only [List.cons.injEq, and_true] at e
      obtain ⟨e1, e2⟩ := e
      obtain rfl := SLi_inj e1
      obtain ⟨rfl, rfl, rfl⟩ := Rf_inj e2
      rfl
noncomputable def pr1 : FuncId → List T → Option R := relP Sp1 (butP NEW CALL)
theorem pr1_ok : CallOK E0.P pr1 := relP_ok Sp1_ok (butP_ok (lim_sound mixed pr0_ok))
noncomputable abbrev CALL1 := (lim E0 pr1).call
theorem Sp1_not {f : FuncId} (h : f ≠ 50 ∧ f ≠ 24) (xs : List T) (r : R) : ¬ Sp1 f xs r := fun q => by
  rcases q with ⟨q, _⟩ | ⟨q, _⟩
  · exact h.1 q
  · exact h.2 q
theorem pr1_none {f : FuncId} (h : (f ≠ 50 ∧ f ≠ 24) ∧ f ∈ NEW) (xs : List T) : pr1 f xs = none := (relP_none (Sp1_not h.1 xs)).trans (if_pos h.2)
theorem old1 {f : FuncId} {xs : List T} {r : R} (h : (f ≠ 50 ∧ f ≠ 24) ∧ f ∉ NEW) (hc : CALL f xs = some r) : CALL1 f xs = some r :=
  lim_pr ((relP_none (Sp1_not h.1 xs)).trans ((if_neg h.2).trans hc))
theorem s1_Pairs (ar a : Int) (b1 b2 b3 : Bool) (c1 c2 c3 : Option Nat) (E S : List Int) (ar' b : Int) (S' : List Int) (h1 : (E.length : Int) ≤ 9223372036854775806) (h2 : (S.length : Int) ≤ 9223372036854775806) (h3 : (S'.length : Int) ≤ 9223372036854775806) :
    CALL1 50 [SL b1 c1 E.length (ints E), Rf ar a b2 c2 S, Rf ar' b b3 c3 S'] = some (pairsRes (meetL ar a E S ar' b S') (errRR a E S b S')) :=
  lim_pr (relP_of (.inl ⟨rfl, ar, a, b1, b2, b3, c1, c2, c3, E, S, ar', b, S', h1, h2, h3, rfl, rfl⟩) fun r' h => Sp1_one (.inl ⟨rfl, ar, a, b1, b2, b3, c1, c2, c3, E, S, ar', b, S', h1, h2, h3, rfl, rfl⟩) h)
theorem s1_Twice (ar a : Int) (b1 b2 : Bool) (c1 c2 : Option Nat) (E S : List Int) (h1 : (E.length : Int) ≤ 9223372036854775806) (h2 : (S.length : Int) ≤ 9223372036854775806) :
    CALL1 24 [SL b1 c1 E.length (ints E), Rf ar a b2 c2 S] = some (.tup [B (decide (¬ (placesR a E S).Nodup)), I (errR a E S)], []) :=
  lim_pr (relP_of (.inr ⟨rfl, ar, a, b1, b2, c1, c2, E, S, h1, h2, rfl, rfl⟩) fun r' h => Sp1_one (.inr ⟨rfl, ar, a, b1, b2, c1, c2, E, S, h1, h2, rfl, rfl⟩) h)

noncomputable abbrev dBody : Code := codeOf Try.f122
noncomputable abbrev dA0 : Code := sA dBody
noncomputable abbrev dA1 : Code := sA (sB dBody)
noncomputable abbrev dA2 : Code := sA (sB (sB dBody))
noncomputable abbrev dA4 : Code := sA (sB (sB (sB dBody)))
noncomputable abbrev dA5 : Code := sA (sB (sB (sB (sB dBody))))
noncomputable abbrev dR10 : Code := sA (sB (sB (sB (sB (sB dBody)))))
noncomputable abbrev dR11 : Code := sA (sB (sB (sB (sB (sB (sB dBody))))))
theorem dBody_eq : dBody = .seq dA0 (.seq dA1 (.seq dA2 (.seq dA4 (.seq dA5 (.seq dR10 (.seq dR11 .ret)))))) := by kernel_rfl
theorem dR10_eq : dR10 = .region 10 #[opAt 0 dR10, opAt 1 dR10] false := by kernel_rfl
theorem dR11_eq : dR11 = .region 11 #[opAt 0 dR11, opAt 1 dR11, opAt 2 dR11, opAt 3 dR11] false := by kernel_rfl
theorem dGood : GoodC Try.f122.ntmps dBody dBody := ⟨fun b hb => hb, by kernel_rfl⟩
theorem dPieces : ∀ c ∈ [dA0, dA1, dA2, dA4, dA5], GoodC Try.f122.ntmps dBody c := by
  have h := dGood
  have h0 : GoodC Try.f122.ntmps dBody (.seq dA0 (.seq dA1 (.seq dA2 (.seq dA4 (.seq dA5 (.seq dR10 (.seq dR11 .ret))))))) := by rw [← dBody_eq]; exact h
  obtain ⟨g0, h1⟩ := good_seq h0
  obtain ⟨g1, h2⟩ := good_seq h1
  obtain ⟨g2, h3⟩ := good_seq h2
  obtain ⟨g3, h4⟩ := good_seq h3
  obtain ⟨g4, h5⟩ := good_seq h4
  intro c hc
  simp only [List.mem_cons, List.not_mem_nil, or_false] at hc
  rcases hc with rfl | rfl | rfl | rfl | rfl <;> assumption
def apartL (L : List PairI) : List Int := L.map fun z => z.2 - z.1
theorem pairCs_at : ∀ (L : List PairI) (i : Nat) (z : PairI), L[i]? = some z → (pairCs L)[i * 2]? = some (CI z.1) ∧ (pairCs L)[i * 2 + 1]? = some (CI z.2)
  | y :: L, 0, z, h => by simp only [List.getElem?_cons_zero, Option.some.injEq] at h; subst h; exact ⟨rfl, rfl⟩
  | y :: L, i + 1, z, h => by
    simp only [List.getElem?_cons_succ] at h
    obtain ⟨h1, h2⟩ := pairCs_at L i z h
    rw [show (i + 1) * 2 = i * 2 + 2 by omega]
    exact ⟨h1, h2⟩
section
variable (ar a : Int) (b1 b2 b3 : Bool) (c1 c2 c3 : Option Nat) (E S : List Int) (ar' b : Int) (S' : List Int)
theorem dist_loop (L : List PairI) (hLl : L.length ≤ 1000000) (hL : ∀ z ∈ L, -1000 ≤ z.1 ∧ z.1 ≤ 1000 ∧ -1000 ≤ z.2 ∧ z.2 ≤ 1000) : ∀ (r : List PairI) (i : Nat) (xs : List Int) (cp cq : Option Nat), L.drop i = r → xs.length + r.length ≤ 1000000 →
    ∃ cp', lp E0 pr1 122 6 ⟨[(10, .sl 0 0 xs.length 1 cp), (23, .sl 1 0 L.length 2 cq), (24, I L.length), (25, I i)], [(0, .arr (ints xs) 0 1), (1, .arr (pairCs L) 1 1)], 2⟩ =
      some (.exit 0, ⟨[(10, .sl 0 0 (xs ++ apartL r).length 1 cp')], [(0, .arr (ints (xs ++ apartL r)) 0 1)], 1⟩) := by
  intro r
  induction r with
  | nil =>
    intro i xs cp cq h1 h2
    have h5 := drop_nil h1
    have h6 : ¬ (i : Int) < L.length := by omega
    refine ⟨cp, ?_⟩
    rw [lp_eq lp122_6]
    simp (config := { maxSteps := 1000000 }) (disch := omega) only [push_cast, ↓reduceIte, Nat.reduceEqDiff, Nat.reduceAdd, Nat.reduceLT, Nat.reduceLeDiff, Nat.reduceBEq, Nat.reduceMul, Nat.reduceSub, Int.reduceToNat, Int.reduceEq, Int.reduceLT, Int.reduceLE, Int.reduceNeg, Int.reduceAdd, Int.reduceSub, Int.reduceMul, Try.f122, kr122, kp122_6, ow122_6, ty3, ty25, ty28, ty30, ty98, ty120, h6, apartL, List.map_nil, List.append_nil]
  | cons z r ih =>
    intro i xs cp cq h1 h2
    obtain ⟨g1, g2, g3⟩ := drop_cons h1
    have g8 : (i : Int) < L.length := by omega
    obtain ⟨hat, hat2⟩ := pairCs_at L i z g2
    simp only [List.length_cons] at h2
    have hz := hL z (List.mem_of_getElem? g2)
    obtain ⟨cp', ih'⟩ := ih (i + 1) (xs ++ [z.2 - z.1]) none cq g3 (by simp; omega)
    rw [List.append_assoc, show [z.2 - z.1] ++ apartL r = apartL (z :: r) from rfl] at ih'
    simp only [cast1, List.length_append, List.length_cons, List.length_nil, Nat.zero_add, Nat.add_zero, Int.natCast_zero, Int.natCast_add, Int.zero_add, ints_1, ints_0, ] at ih'
    have hw : IntKind.i64.wrap (z.2 - z.1) = z.2 - z.1 := w64 (by omega) (by omega)
    refine ⟨cp', ?_⟩
    rw [lp_eq lp122_6]
    simp (config := { maxSteps := 1000000 }) (disch := omega) only [push_cast, ↓reduceIte, Nat.reduceEqDiff, Nat.reduceAdd, Nat.reduceLT, Nat.reduceLeDiff, Nat.reduceBEq, Nat.reduceMul, Nat.reduceSub, Int.reduceToNat, Int.reduceEq, Int.reduceLT, Int.reduceLE, Int.reduceNeg, Int.reduceAdd, Int.reduceSub, Int.reduceMul, Try.f122, kr122, kp122_6, ow122_6, ty3, ty25, ty28, ty30, ty98, ty120, g1, g8, hat, hat2, hw, ih']
theorem meetL_len : (meetL ar a E S ar' b S').length ≤ 160000 := by
  unfold meetL
  split
  · unfold castP
    rw [List.length_map]
    exact pairs_len (placesR_le a E S) (placesR_le b E S')
  · simp
theorem meetL_bd : ∀ z ∈ meetL ar a E S ar' b S', 0 ≤ z.1 ∧ z.1 < 400 ∧ 0 ≤ z.2 ∧ z.2 < 400 := by
  intro z hz
  unfold meetL at hz
  split at hz
  · unfold castP at hz
    obtain ⟨y, hy, rfl⟩ := List.mem_map.1 hz
    have := pairs_bd (placesR_le a E S) (placesR_le b E S') hy
    simp only; omega
  · simp at hz
/-- How far apart, each once, in order. -/
def distL : List Int := setQ (apartL (meetL ar a E S ar' b S'))
noncomputable abbrev dS (xs : List Int) (cp : Option Nat) : St := ⟨[(10, .sl 0 0 xs.length 1 cp)], [(0, .arr (ints xs) 0 1)], 1⟩
theorem dist_first (h1 : (E.length : Int) ≤ 9223372036854775806) (h2 : (S.length : Int) ≤ 9223372036854775806) (h3 : (S'.length : Int) ≤ 9223372036854775806) (he : errRR a E S b S' = 0) : ∃ cp, exec E0 (lim E0 pr1) 122 .nor ([dA0, dA1, dA2, dA4, dA5].map It.code) ⟨params 0 [SL b1 c1 E.length (ints E), Rf ar a b2 c2 S, Rf ar' b b3 c3 S'], [], 0⟩ = some (.nor, dS (apartL (meetL ar a E S ar' b S')) cp) := by
  have hp := fun b0 b2 b3 c0 c2 c3 => s1_Pairs ar a b0 b2 b3 c0 c2 c3 E S ar' b S' h1 h2 h3
  unfold pairsRes at hp
  rw [he] at hp
  have hl := meetL_len ar a E S ar' b S'
  obtain ⟨cp, h6⟩ := dist_loop (meetL ar a E S ar' b S') (by omega) (fun z hz => by have := meetL_bd ar a E S ar' b S' z hz; omega) (meetL ar a E S ar' b S') 0 [] none none rfl (by simp; omega)
  simp only [cast1, List.length_append, List.length_cons, List.length_nil, Nat.zero_add, Nat.add_zero, Int.natCast_zero, Int.natCast_add, Int.zero_add, ints_1, ints_0, ] at h6
  simp only [List.nil_append] at h6
  refine ⟨cp, ?_⟩
  simp (config := { maxSteps := 1000000 }) (disch := omega) only [push_cast, ↓reduceIte, Nat.reduceEqDiff, Nat.reduceAdd, Nat.reduceLT, Nat.reduceLeDiff, Nat.reduceBEq, Nat.reduceMul, Nat.reduceSub, Int.reduceToNat, Int.reduceEq, Int.reduceLT, Int.reduceLE, Int.reduceNeg, Int.reduceAdd, Int.reduceSub, Int.reduceMul, Try.f122, kr122, kp122_6, ow122_6, ty3, ty25, ty28, ty30, ty98, ty120, dA0, dA1, dA2, dA4, dA5, dBody, codeOf, sA, sB, hp, ne_eq, List.map_cons, List.map_nil, h6]
theorem dist_walk (h1 : (E.length : Int) ≤ 9223372036854775806) (h2 : (S.length : Int) ≤ 9223372036854775806) (h3 : (S'.length : Int) ≤ 9223372036854775806) (he : errRR a E S b S' = 0) :
    CallsR E0.P 122 [SL b1 c1 E.length (ints E), Rf ar a b2 c2 S, Rf ar' b b3 c3 S'] (.tup [.sl 0 0 (distL ar a E S ar' b S').length 1 none, I 0], [ints (distL ar a E S ar' b S')]) := by
  obtain ⟨cp, hA⟩ := dist_first ar a b1 b2 b3 c1 c2 c3 E S ar' b S' h1 h2 h3 he
  have hok : okFunc Try.f122 = true := by kernel_rfl
  have hlp := lim_loopOK (E := E0) (pr := pr1) mixed pr1_ok fn122 (show Try.f122.body = some dBody by kernel_rfl) hok
  have hnd : nodupB ((loopsOf dBody).map firstId) = true := by kernel_rfl
  have hl := meetL_len ar a E S ar' b S'
  have hxl : (apartL (meetL ar a E S ar' b S')).length ≤ 160000 := by unfold apartL; rw [List.length_map]; exact hl
  unfold distL setQ
  generalize apartL (meetL ar a E S ar' b S') = xs at *
  have hsl := sortQ_len xs
  have hcl := cpt_le (sortQ xs)
  refine walk_fun (E := E0) fn122 (by kernel_rfl) (show Try.f122.body = some dBody by kernel_rfl) (Nat.le_of_ble_eq_true (by kernel_rfl)) fun w F => ?_
  rw [show ([dBody] : List Code) = [Code.seq dA0 (.seq dA1 (.seq dA2 (.seq dA4 (.seq dA5 (.seq dR10 (.seq dR11 .ret))))))] from congrArg (fun c => [c]) dBody_eq]
  refine walk_assoc [] (walk_assoc [dA0] (walk_assoc [dA0, dA1] (walk_assoc [dA0, dA1, dA2] (walk_assoc [dA0, dA1, dA2, dA4] (walk_assoc [dA0, dA1, dA2, dA4, dA5] (walk_assoc [dA0, dA1, dA2, dA4, dA5, dR10] ?_))))))
  refine walk_list (l := [dR10, dR11, .ret]) mixed (lim_sound mixed pr1_ok) hlp hnd [dA0, dA1, dA2, dA4, dA5] dPieces hA ?_
  show WalkL E0.P Try.f122.ntmps w F [dR10, dR11, .ret] (dS xs cp) _
  rw [dR10_eq]
  refine walk_region ?_
  refine walko_op (lim_sound mixed pr1_ok) (by kernel_rfl) (dst_lt (d := 38) (by kernel_rfl) (Nat.le_of_ble_eq_true (by kernel_rfl))) (S' := ?_) ?_ ?_
  rotate_left
  · simp (config := { maxSteps := 1000000 }) (disch := omega) only [push_cast, ↓reduceIte, Nat.reduceEqDiff, Nat.reduceAdd, Nat.reduceLT, Nat.reduceLeDiff, Nat.reduceBEq, Nat.reduceMul, Nat.reduceSub, Int.reduceToNat, Int.reduceEq, Int.reduceLT, Int.reduceLE, Int.reduceNeg, Int.reduceAdd, Int.reduceSub, Int.reduceMul, Try.f122, kr122, kp122_6, ow122_6, ty3, ty25, ty28, ty30, ty98, ty120, opA, opAt, dR10, dR11, dBody, sA, sB, hsl, St.add]
    rfl
  refine walko_sort sort_ok (ats := #[28]) (t := 38) (by kernel_rfl) (by kernel_rfl) (dst_lt (d := 39) (by kernel_rfl) (Nat.le_of_ble_eq_true (by kernel_rfl))) (p := 0) (g := 0) (gen := 1) (xs := xs) (cap := cp) rfl rfl (by omega) rfl ?_
  show WalkL E0.P Try.f122.ntmps w F [dR11, .ret] _ _
  rw [dR11_eq]
  refine walk_region ?_
  refine walko_op (lim_sound mixed pr1_ok) (by kernel_rfl) (dst_lt (d := 40) (by kernel_rfl) (Nat.le_of_ble_eq_true (by kernel_rfl))) (S' := ?_) ?_ ?_
  rotate_left
  · simp (config := { maxSteps := 1000000 }) (disch := omega) only [push_cast, ↓reduceIte, Nat.reduceEqDiff, Nat.reduceAdd, Nat.reduceLT, Nat.reduceLeDiff, Nat.reduceBEq, Nat.reduceMul, Nat.reduceSub, Int.reduceToNat, Int.reduceEq, Int.reduceLT, Int.reduceLE, Int.reduceNeg, Int.reduceAdd, Int.reduceSub, Int.reduceMul, Try.f122, kr122, kp122_6, ow122_6, ty3, ty25, ty28, ty30, ty98, ty120, opA, opAt, dR10, dR11, dBody, sA, sB, hsl, St.add]
    rfl
  refine walko_comp comp_ok (ats := #[28]) (t := 40) (by kernel_rfl) (by kernel_rfl) (dst_lt (d := 41) (by kernel_rfl) (Nat.le_of_ble_eq_true (by kernel_rfl))) (p := 0) (g := 0) (gen := 1) (xs := sortQ xs) (cap := cp) (by simp only [get, hsl]; rfl) rfl (by omega) rfl ?_
  refine walko_op (lim_sound mixed pr1_ok) (by kernel_rfl) (dst_lt (d := 6) (by kernel_rfl) (Nat.le_of_ble_eq_true (by kernel_rfl))) (S' := ?_) ?_ ?_
  rotate_left
  · simp (config := { maxSteps := 1000000 }) (disch := omega) only [push_cast, ↓reduceIte, Nat.reduceEqDiff, Nat.reduceAdd, Nat.reduceLT, Nat.reduceLeDiff, Nat.reduceBEq, Nat.reduceMul, Nat.reduceSub, Int.reduceToNat, Int.reduceEq, Int.reduceLT, Int.reduceLE, Int.reduceNeg, Int.reduceAdd, Int.reduceSub, Int.reduceMul, Try.f122, kr122, kp122_6, ow122_6, ty3, ty25, ty28, ty30, ty98, ty120, opA, opAt, dR10, dR11, dBody, sA, sB, hsl, St.add]
    rfl
  refine walko_op (lim_sound mixed pr1_ok) (by kernel_rfl) (dst_lt (d := 7) (by kernel_rfl) (Nat.le_of_ble_eq_true (by kernel_rfl))) (S' := ?_) ?_ ?_
  rotate_left
  · simp (config := { maxSteps := 1000000 }) (disch := omega) only [push_cast, ↓reduceIte, Nat.reduceEqDiff, Nat.reduceAdd, Nat.reduceLT, Nat.reduceLeDiff, Nat.reduceBEq, Nat.reduceMul, Nat.reduceSub, Int.reduceToNat, Int.reduceEq, Int.reduceLT, Int.reduceLE, Int.reduceNeg, Int.reduceAdd, Int.reduceSub, Int.reduceMul, Try.f122, kr122, kp122_6, ow122_6, ty3, ty25, ty28, ty30, ty98, ty120, opA, opAt, dR10, dR11, dBody, sA, sB, hsl, St.add]
    rfl
  show WalkL E0.P Try.f122.ntmps w F [.ret] _ _
  refine walk_ret ⟨.inr rfl, ?_⟩
  have hr : rowAt (ints (cpt (sortQ xs) ++ List.replicate (xs.length - (cpt (sortQ xs)).length) 0)) 0 (cpt (sortQ xs)).length = ints (cpt (sortQ xs)) := by
    unfold rowAt; rw [← ints_append, List.drop_zero]; exact List.take_left' (ints_len _)
  simp (config := { maxSteps := 1000000 }) (disch := omega) only [push_cast, ↓reduceIte, Nat.reduceEqDiff, Nat.reduceAdd, Nat.reduceLT, Nat.reduceLeDiff, Nat.reduceBEq, Nat.reduceMul, Nat.reduceSub, Int.reduceToNat, Int.reduceEq, Int.reduceLT, Int.reduceLE, Int.reduceNeg, Int.reduceAdd, Int.reduceSub, Int.reduceMul, Try.f122, kr122, kp122_6, ow122_6, ty3, ty25, ty28, ty30, ty98, ty120, retT, St.add, hr, ne_eq]
end

section
variable (ar a : Int) (b1 b2 b3 : Bool) (c1 c2 c3 : Option Nat) (E S : List Int) (ar' b : Int) (S' : List Int)
theorem setQ_nil : setQ [] = [] := List.eq_nil_iff_forall_not_mem.2 fun z hz => by have := (setQ_mem [] z).1 hz; simp at this
theorem errRR_or : errRR a E S b S' = 0 ∨ errRR a E S b S' = 2 := by
  unfold errRR; split <;> simp
theorem meetL_err (h : errRR a E S b S' = 2) : meetL ar a E S ar' b S' = [] := by
  unfold errRR at h
  unfold meetL
  rw [if_neg fun q => ?_]
  rw [if_pos q.1] at h
  simp at h
abbrev distR (L : List Int) (e : Int) : R := (.tup [.sl 0 0 L.length 1 none, I e], [ints L])
theorem dist_all (h1 : (E.length : Int) ≤ 9223372036854775806) (h2 : (S.length : Int) ≤ 9223372036854775806) (h3 : (S'.length : Int) ≤ 9223372036854775806) :
    CallsR E0.P 122 [SL b1 c1 E.length (ints E), Rf ar a b2 c2 S, Rf ar' b b3 c3 S'] (distR (distL ar a E S ar' b S') (errRR a E S b S')) := by
  rcases errRR_or a E S b S' with he | he
  · rw [he]
    exact dist_walk ar a b1 b2 b3 c1 c2 c3 E S ar' b S' h1 h2 h3 he
  · have hm := meetL_err ar a E S ar' b S' he
    have hp := fun b0 b2 b3 c0 c2 c3 => s1_Pairs ar a b0 b2 b3 c0 c2 c3 E S ar' b S' h1 h2 h3
    unfold pairsRes at hp
    unfold distL
    rw [he, hm] at hp
    rw [he, hm, show apartL [] = [] from rfl, setQ_nil]
    refine lim_sound mixed pr1_ok _ _ _ ?_
    show CALL1 122 _ = _
    refine lim_run (fn := Try.f122) fn122 (pr1_none (by decide) _) body122 (Nat.le_of_ble_eq_true rfl) ok122 ?_
    simp (config := { maxSteps := 1000000 }) (disch := omega) only [push_cast, ↓reduceIte, Nat.reduceEqDiff, Nat.reduceAdd, Nat.reduceLT, Nat.reduceLeDiff, Nat.reduceBEq, Nat.reduceMul, Nat.reduceSub, Int.reduceToNat, Int.reduceEq, Int.reduceLT, Int.reduceLE, Int.reduceNeg, Int.reduceAdd, Int.reduceSub, Int.reduceMul, Try.f122, kr122, kp122_6, ow122_6, ty3, ty25, ty28, ty30, ty98, ty120, hp, ne_eq, pairCs_nil]
    rfl
end
def Sp2 (f : FuncId) (xs : List T) (r : R) : Prop :=
  f = 122 ∧ ∃ (ar a : Int) (b1 b2 b3 : Bool) (c1 c2 c3 : Option Nat) (E S : List Int) (ar' b : Int) (S' : List Int), (E.length : Int) ≤ 9223372036854775806 ∧ (S.length : Int) ≤ 9223372036854775806 ∧ (S'.length : Int) ≤ 9223372036854775806 ∧
    xs = [SL b1 c1 E.length (ints E), Rf ar a b2 c2 S, Rf ar' b b3 c3 S'] ∧ r = distR (distL ar a E S ar' b S') (errRR a E S b S')
theorem Sp2_ok (f : FuncId) (xs : List T) (r : R) (h : Sp2 f xs r) : CallsR E0.P f xs r := by
  obtain ⟨rfl, ar, a, b1, b2, b3, c1, c2, c3, E, S, ar', b, S', h1, h2, h3, rfl, rfl⟩ := h
  exact dist_all ar a b1 b2 b3 c1 c2 c3 E S ar' b S' h1 h2 h3
theorem Sp2_one {f : FuncId} {xs : List T} {r r' : R} (h : Sp2 f xs r) (h' : Sp2 f xs r') : r' = r := by
  obtain ⟨rfl, ar, a, b1, b2, b3, c1, c2, c3, E, S, ar', b, S', h1, h2, h3, rfl, rfl⟩ := h
  obtain ⟨_, ar1, a1, b11, b21, b31, c11, c21, c31, E1, S1, ar1', b1', S1', _, _, _, e, rfl⟩ := h'
  simp only [List.cons.injEq, and_true] at e
  obtain ⟨e1, e2, e3⟩ := e
  obtain rfl := SLi_inj e1
  obtain ⟨rfl, rfl, rfl⟩ := Rf_inj e2
  obtain ⟨rfl, rfl, rfl⟩ := Rf_inj e3
  rfl
noncomputable def pr2 : FuncId → List T → Option R := relP Sp2 (butP NEW CALL1)
theorem pr2_ok : CallOK E0.P pr2 := relP_ok Sp2_ok (butP_ok (lim_sound mixed pr1_ok))
noncomputable abbrev CALL2 := (lim E0 pr2).call
theorem pr2_none {f : FuncId} (h : f ≠ 122 ∧ f ∈ NEW) (xs : List T) : pr2 f xs = none := (relP_none fun r q => h.1 q.1).trans (if_pos h.2)
theorem up2 {f : FuncId} {xs : List T} {r : R} (h : f ≠ 122 ∧ f ∉ NEW) (hc : CALL1 f xs = some r) : CALL2 f xs = some r :=
  lim_pr ((relP_none fun r q => h.1 q.1).trans ((if_neg h.2).trans hc))
theorem old2 {f : FuncId} {xs : List T} {r : R} (h : (f ≠ 50 ∧ f ≠ 24) ∧ f ≠ 122 ∧ f ∉ NEW) (hc : CALL f xs = some r) : CALL2 f xs = some r :=
  up2 h.2 (old1 ⟨h.1, h.2.2⟩ hc)
section
variable (ar a : Int) (b1 b2 b3 : Bool) (c1 c2 c3 : Option Nat) (E S : List Int) (ar' b : Int) (S' : List Int) (h1 : (E.length : Int) ≤ 9223372036854775806) (h2 : (S.length : Int) ≤ 9223372036854775806) (h3 : (S'.length : Int) ≤ 9223372036854775806)
include h1 h2 h3
theorem s2_Pairs : CALL2 50 [SL b1 c1 E.length (ints E), Rf ar a b2 c2 S, Rf ar' b b3 c3 S'] = some (pairsRes (meetL ar a E S ar' b S') (errRR a E S b S')) :=
  up2 (by decide) (s1_Pairs ar a b1 b2 b3 c1 c2 c3 E S ar' b S' h1 h2 h3)
theorem s2_Dist : CALL2 122 [SL b1 c1 E.length (ints E), Rf ar a b2 c2 S, Rf ar' b b3 c3 S'] = some (distR (distL ar a E S ar' b S') (errRR a E S b S')) :=
  lim_pr (relP_of ⟨rfl, ar, a, b1, b2, b3, c1, c2, c3, E, S, ar', b, S', h1, h2, h3, rfl, rfl⟩ fun r' h => Sp2_one ⟨rfl, ar, a, b1, b2, b3, c1, c2, c3, E, S, ar', b, S', h1, h2, h3, rfl, rfl⟩ h)
theorem s2_Meet : CALL2 19 [SL b1 c1 E.length (ints E), Rf ar a b2 c2 S, Rf ar' b b3 c3 S'] = some (.tup [B (decide (0 < (meetL ar a E S ar' b S').length)), I (errRR a E S b S')], []) := by
  have hp := fun b0 b2 b3 c0 c2 c3 => s2_Pairs ar a b0 b2 b3 c0 c2 c3 E S ar' b S' h1 h2 h3
  unfold pairsRes at hp
  have hd : decide ((0 : Int) < (meetL ar a E S ar' b S').length) = decide (0 < (meetL ar a E S ar' b S').length) := by rw [decide_eq_decide]; omega
  refine lim_run (fn := Try.f19) fn19 (pr2_none (by decide) _) body19 (Nat.le_of_ble_eq_true rfl) ok19 ?_
  simp (config := { maxSteps := 1000000 }) (disch := omega) only [push_cast, ↓reduceIte, Nat.reduceEqDiff, Nat.reduceAdd, Nat.reduceLT, Nat.reduceLeDiff, Nat.reduceBEq, Nat.reduceMul, Nat.reduceSub, Int.reduceToNat, Int.reduceEq, Int.reduceLT, Int.reduceLE, Int.reduceNeg, Int.reduceAdd, Int.reduceSub, Int.reduceMul, Try.f19, kr19, ty3, ty4, ty25, ty28, ty30, ty98, ty120, tb4, hp, hd]
def wayS (c : Nat) : ByteArray := if c = 0 then ⟨#[110, 111, 110, 101]⟩ else if c = 1 then ⟨#[115, 97, 109, 101]⟩ else if c = 2 then ⟨#[111, 110]⟩ else if c = 3 then ⟨#[98, 97, 99, 107]⟩ else ⟨#[98, 111, 116, 104]⟩
def wayQ : ByteArray := if errRR a E S b S' = 0 then wayS (wayC (distL ar a E S ar' b S')) else ⟨#[]⟩
omit h1 h2 h3
theorem way_awake : wayQ 0 0 [4] [1] 0 1 [1] = ⟨#[98, 97, 99, 107]⟩ := by
  unfold wayQ
  rw [if_pos (by decide), show wayC (distL 0 0 [4] [1] 0 1 [1]) = wayC (apartL (meetL 0 0 [4] [1] 0 1 [1])) from wayC_ext (setQ_mem _), show wayC (apartL (meetL 0 0 [4] [1] 0 1 [1])) = 3 by decide]
  rfl
end
end Go.Proofs.Ytnbijiopcgfmfaa.Tev
