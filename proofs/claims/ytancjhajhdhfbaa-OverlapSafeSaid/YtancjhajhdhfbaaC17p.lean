/- overlap.Pairs: the loops behind the map, and the pairs as cells. -/
import Derived.Test.YtancjhajhdhfbaaC17d
import Derived.Test.YtancjhajhdhfbaaQPair
import Derived.Test.YtancjhajhdhfbaaTevRows4
namespace Go.Proofs.Ytancjhajhdhfbaa.Tev
open Go Go.RowKit Go.Proofs Go.Proofs.Ytancjhajhdhfbaa.Q
set_option linter.unusedSectionVars false
set_option maxRecDepth 100000
set_option maxHeartbeats 0
set_option linter.unusedSimpArgs false
set_option linter.unusedVariables false
abbrev PairI := Int × Int
def pairC (z : PairI) : List C := [CI z.1, CI z.2]
def pairCs (l : List PairI) : List C := l.flatMap pairC
theorem pairC_len (z : PairI) : (pairC z).length = 2 := rfl
theorem pairCs_nil : pairCs [] = [] := rfl
theorem pairCs_snoc (l : List PairI) (x y : Int) : pairCs l ++ [CI x, CI y] = pairCs (l ++ [(x, y)]) := by simp [pairCs, pairC]
theorem pairCs_len : ∀ l : List PairI, (pairCs l).length = l.length * 2
  | [] => rfl
  | z :: l => by
    have ih := pairCs_len l
    simp only [pairCs, List.flatMap_cons, List.length_append, pairC_len, List.length_cons] at ih ⊢
    omega
/-- The pairs as numbers. -/
def pairsFI (q : List Int) : List Int → Nat → List PairI
  | [], _ => []
  | x :: p, i => (hitsI q x 0).map (fun k => ((i : Int), k)) ++ pairsFI q p (i + 1)
def castP (l : List (Nat × Nat)) : List PairI := l.map fun z => ((z.1 : Int), (z.2 : Int))
theorem hitsI_eq : ∀ (q : List Int) (x : Int) (k : Nat), hitsI q x k = (hits q x k).map fun n : Nat => (n : Int)
  | [], x, k => rfl
  | y :: q, x, k => by
    rw [hitsI, hits, hitsI_eq q x (k + 1)]
    split <;> rfl
theorem pairsFI_eq (q : List Int) : ∀ (p : List Int) (i : Nat), pairsFI q p i = castP (pairsF q p i)
  | [], i => rfl
  | x :: p, i => by
    rw [pairsFI, pairsF, castP, List.map_append, hitsI_eq, ← castP, pairsFI_eq q p (i + 1)]
    congr 1
    simp [castP]
theorem look_map (s : List RowP) (x : Int) : ∀ (i : Nat), keyIx (.int .i64 x) (mapC s) i = some (idxP s x i) := by
  induction s with
  | nil => intro i; rfl
  | cons e s ih =>
    intro i
    have ih := ih (i + 1)
    unfold mapC at ih ⊢
    simp only [List.map_cons, keyIx, idxP, if_true, ih]
    by_cases h : x = e.1
    · rw [if_pos h, if_pos h]
    · rw [if_neg h, if_neg h]
theorem look_val (s : List RowP) (x : Int) : ∃ cp, ((((idxP s x 0).bind ((mapC s)[·]?)).map (·.2.1)).getD (.s (some 0) 0 []) : C) = .s cp (lookP s x).length (ints (lookP s x)) := by
  unfold lookP
  cases hj : idxP s x 0 with
  | none => exact ⟨some 0, rfl⟩
  | some j =>
    obtain ⟨_, e, h1, _⟩ := idxP_some hj
    simp only [Nat.sub_zero] at h1
    refine ⟨none, ?_⟩
    simp [mapC, h1]
section
variable (es : List RowP) (cl : Nat)
theorem ol_Pairs16 (p : List Int) (N i : Nat) (cp : Option Nat) (h : List Int) (hh : h.length ≤ 400) (hcp : Option Nat) : ∀ (r : List Int) (j : Nat) (L : List PairI), h.drop j = r → L.length + r.length ≤ 200000 →
    lp E0 pr0 12 16 ⟨[(8, .mp 0), (11, .sl 1 0 L.length 2 none), (12, I i), (52, .sl 2 0 p.length 1 cp), (53, I N), (54, I i), (61, SL true hcp h.length (ints h)), (62, I h.length), (63, I j)], [(0, .mp (mapC es) cl), (1, .arr (pairCs L) 1 1), (2, .arr (ints p) 2 1)], 3⟩ =
      some (.exit 4, ⟨[(8, .mp 0), (11, .sl 1 0 (L ++ r.map fun k => ((i : Int), k)).length 2 none), (52, .sl 2 0 p.length 1 cp), (53, I N), (54, I i)], [(0, .mp (mapC es) cl), (1, .arr (pairCs (L ++ r.map fun k => ((i : Int), k))) 1 1), (2, .arr (ints p) 2 1)], 3⟩) := by
  intro r
  induction r with
  | nil =>
    intro j L h1 h2
    have h5 := drop_nil h1
    have h6 : ¬ (j : Int) < h.length := by omega
    rw [lp_eq lp12_16]
    simp (config := { maxSteps := 1000000 }) (disch := omega) only [push_cast, ↓reduceIte, Nat.reduceEqDiff, Nat.reduceAdd, Nat.reduceLT, Nat.reduceLeDiff, Nat.reduceBEq, Nat.reduceMul, Nat.reduceSub, Int.reduceToNat, Int.reduceEq, Int.reduceLT, Int.reduceLE, Int.reduceNeg, Int.reduceAdd, Int.reduceSub, Int.reduceMul, Try.f12, kr12, kp12_16, kp12_13, kp12_7, ow12_16, ow12_13, ow12_7, ty3, ty22, ty24, ty28, ty29, ty47, ty49, h6, List.map_nil, List.append_nil]
  | cons x r ih =>
    intro j L h1 h2
    obtain ⟨g1, g2, g3⟩ := drop_cons h1
    have g8 : (j : Int) < h.length := by omega
    simp only [List.length_cons] at h2
    have hl := pairCs_len L
    have ih' := ih (j + 1) (L ++ [((i : Int), x)]) g3 (by simp; omega)
    rw [List.append_assoc, show [((i : Int), x)] ++ r.map (fun k => ((i : Int), k)) = (x :: r).map fun k => ((i : Int), k) from rfl] at ih'
    simp only [cast1, List.length_append, List.length_cons, List.length_nil, Nat.zero_add, Nat.add_zero, Int.natCast_zero, Int.natCast_add, Int.zero_add, ints_1, ints_0, ] at ih'
    rw [lp_eq lp12_16]
    simp (config := { maxSteps := 1000000 }) (disch := omega) only [push_cast, ↓reduceIte, Nat.reduceEqDiff, Nat.reduceAdd, Nat.reduceLT, Nat.reduceLeDiff, Nat.reduceBEq, Nat.reduceMul, Nat.reduceSub, Int.reduceToNat, Int.reduceEq, Int.reduceLT, Int.reduceLE, Int.reduceNeg, Int.reduceAdd, Int.reduceSub, Int.reduceMul, Try.f12, kr12, kp12_16, kp12_13, kp12_7, ow12_16, ow12_13, ow12_7, ty3, ty22, ty24, ty28, ty29, ty47, ty49, g1, g8, getD_of g2, hl, pairCs_snoc, ih']
theorem ol_Pairs13 (p q : List Int) (hp : p.length ≤ 400) (hq : q.length ≤ 400) (hes : ∀ y, lookP es y = hitsI q y 0) : ∀ (r : List Int) (i : Nat) (L : List PairI) (cp : Option Nat), p.drop i = r → L.length + r.length * 400 ≤ 160000 →
    lp E0 pr0 12 13 ⟨[(8, .mp 0), (11, .sl 1 0 L.length 2 none), (52, .sl 2 0 p.length 1 cp), (53, I p.length), (54, I i)], [(0, .mp (mapC es) cl), (1, .arr (pairCs L) 1 1), (2, .arr (ints p) 2 1)], 3⟩ =
      some (.exit 2, ⟨[(11, .sl 0 0 (L ++ pairsFI q r i).length 2 none)], [(0, .arr (pairCs (L ++ pairsFI q r i)) 0 1)], 1⟩) := by
  intro r
  induction r with
  | nil =>
    intro i L cp h1 h2
    have h5 := drop_nil h1
    have h6 : ¬ (i : Int) < p.length := by omega
    rw [lp_eq lp12_13]
    simp (config := { maxSteps := 1000000 }) (disch := omega) only [push_cast, ↓reduceIte, Nat.reduceEqDiff, Nat.reduceAdd, Nat.reduceLT, Nat.reduceLeDiff, Nat.reduceBEq, Nat.reduceMul, Nat.reduceSub, Int.reduceToNat, Int.reduceEq, Int.reduceLT, Int.reduceLE, Int.reduceNeg, Int.reduceAdd, Int.reduceSub, Int.reduceMul, Try.f12, kr12, kp12_16, kp12_13, kp12_7, ow12_16, ow12_13, ow12_7, ty3, ty22, ty24, ty28, ty29, ty47, ty49, h6, pairsFI, List.append_nil]
  | cons x r ih =>
    intro i L cp h1 h2
    obtain ⟨g1, g2, g3⟩ := drop_cons h1
    have g8 : (i : Int) < p.length := by omega
    simp only [List.length_cons] at h2
    obtain ⟨hcp, hv⟩ := look_val es x
    have hk := look_map es x 0
    have hh : (hitsI q x 0).length ≤ 400 := by rw [hitsI_eq]; have := hits_len q x 0; simp; omega
    have hx := hes x
    rw [hx] at hv
    have h16 := ol_Pairs16 es cl p p.length i cp (hitsI q x 0) hh hcp (hitsI q x 0) 0 L rfl (by omega)
    have ih' := ih (i + 1) (L ++ (hitsI q x 0).map fun k => ((i : Int), k)) cp g3 (by simp; omega)
    rw [List.append_assoc, show (hitsI q x 0).map (fun k => ((i : Int), k)) ++ pairsFI q r (i + 1) = pairsFI q (x :: r) i from rfl] at ih'
    simp only [cast1, List.length_append, List.length_cons, List.length_nil, Nat.zero_add, Nat.add_zero, Int.natCast_zero, Int.natCast_add, Int.zero_add, ints_1, ints_0, ] at ih' h16
    simp only [show ∀ n l, SL true hcp n l = T.c (C.s hcp n l) from fun _ _ => rfl] at h16
    rw [lp_eq lp12_13]
    simp (config := { maxSteps := 1000000 }) (disch := omega) only [push_cast, ↓reduceIte, Nat.reduceEqDiff, Nat.reduceAdd, Nat.reduceLT, Nat.reduceLeDiff, Nat.reduceBEq, Nat.reduceMul, Nat.reduceSub, Int.reduceToNat, Int.reduceEq, Int.reduceLT, Int.reduceLE, Int.reduceNeg, Int.reduceAdd, Int.reduceSub, Int.reduceMul, Try.f12, kr12, kp12_16, kp12_13, kp12_7, ow12_16, ow12_13, ow12_7, ty3, ty22, ty24, ty28, ty29, ty47, ty49, g1, g8, getD_of g2, hk, hv, h16, ih']
end
end Go.Proofs.Ytancjhajhdhfbaa.Tev
