/- argue.Do: what deeds make of a memory, when the descriptors are right and lie within it. -/
import Derived.Test.YtochkebkfoophaaC24f
import Derived.Test.YtochkebkfoophaaL24Packs
import Derived.Test.YtochkebkfoophaaC24lay
namespace Go.Proofs.Ytochkebkfoophaa.Tev
open Go Go.RowKit Go.Proofs Go.Proofs.Ytochkebkfoophaa.Q
set_option linter.unusedSectionVars false
set_option maxRecDepth 100000
set_option maxHeartbeats 0
set_option linter.unusedSimpArgs false
set_option linter.unusedVariables false
/-! Lists of lists; deeds. -/
abbrev LC (l : List Int) : C := .s none l.length (ints l)
def rowsC (L : List (List Int)) : List C := L.flatMap fun l => [LC l]
theorem rowsC_len (L : List (List Int)) : (rowsC L).length = L.length := by
  have := flat_len (enc := fun l => [LC l]) (sz := 1) (fun _ => rfl) L
  unfold rowsC
  omega
theorem lc_at {L : List (List Int)} {i : Nat} {l : List Int} (h : L[i]? = some l) : (rowsC L)[i]? = some (LC l) := by
  have := flat_get (enc := fun l => [LC l]) (sz := 1) (fun _ => rfl) h 0 (by decide)
  unfold rowsC
  simpa using this
theorem gd0 {α : Type} {l : List α} {i : Nat} {d : α} (h : i < l.length) : l[i]? = some (l.getD i d) := by rw [List.getD_eq_getElem?_getD, List.getElem?_eq_getElem h]; rfl
abbrev ChgQ := Int × Int × Int × Bool
def chgC (x : ChgQ) : List C := [CI x.1, CI x.2.1, CI x.2.2.1, .v (.bool x.2.2.2)]
theorem chgC_len (x : ChgQ) : (chgC x).length = 4 := rfl
abbrev ChT (q : Bool) (c : Option Nat) (X : List ChgQ) : T := SL q c X.length (X.flatMap chgC)
abbrev DsT (q : Bool) (c : Option Nat) (D : List DscQ) : T := SL q c D.length (D.flatMap dscC)
section
variable {X : List ChgQ} {i : Nat} {x : ChgQ} (h : X[i]? = some x)
theorem ch0 (h : X[i]? = some x) : (X.flatMap chgC)[i * 4]? = some (CI x.1) := flat_get chgC_len h 0 (by decide)
theorem ch1 (h : X[i]? = some x) : (X.flatMap chgC)[i * 4 + 1]? = some (CI x.2.1) := flat_get chgC_len h 1 (by decide)
theorem ch2 (h : X[i]? = some x) : (X.flatMap chgC)[i * 4 + 2]? = some (CI x.2.2.1) := flat_get chgC_len h 2 (by decide)
theorem ch3 (h : X[i]? = some x) : (X.flatMap chgC)[i * 4 + 3]? = some (.v (.bool x.2.2.2)) := flat_get chgC_len h 3 (by decide)
end
def dplc (d : DscQ) : List Int := placesQ d.1 d.2.1 d.2.2
/-- A deed that is right. -/
def okC (qs : List (List Int)) (x : ChgQ) : Prop := (0 ≤ x.1 ∧ x.1 < qs.length) ∧ 0 ≤ x.2.1 ∧ x.2.1 < (qs.getD x.1.toNat []).length
instance (qs : List (List Int)) (x : ChgQ) : Decidable (okC qs x) := by unfold okC; infer_instance
def valQ (qs : List (List Int)) (x : ChgQ) (o : List Int) : Int := if x.2.2.2 = true ∧ 0 < (qs.getD 0 []).length then IntKind.i64.wrap (x.2.2.1 + o.getD ((qs.getD 0 []).getD 0 0).toNat 0) else x.2.2.1
def doQ (qs : List (List Int)) : List ChgQ → List Int → List Int
  | [], o => o
  | x :: r, o => doQ qs r (o.set ((qs.getD x.1.toNat []).getD x.2.1.toNat 0).toNat (valQ qs x o))
theorem doQ_len (qs : List (List Int)) : ∀ (r : List ChgQ) (o : List Int), (doQ qs r o).length = o.length
  | [], o => rfl
  | x :: r, o => by rw [doQ, doQ_len qs r, List.length_set]
section
variable (q1 q2 b : Bool) (c1 c2 cm : Option Nat) (m : List Int) (D : List DscQ) (X : List ChgQ)
theorem l_Do5 (hD : D.length ≤ 8) (hb : ∀ d ∈ D, okD d.1 d.2.1 d.2.2) : ∀ (r : List DscQ) (i : Nat) (qs : List (List Int)), D.drop i = r → qs.length = i →
    lp E0 pr0 27 5 ⟨[(0, SL b cm m.length (ints m)), (1, DsT q1 c1 D), (2, ChT q2 c2 X), (8, .sl 0 0 qs.length 1 none), (31, DsT q1 c1 D), (32, I D.length), (33, I i)], [(0, .arr (rowsC qs) 0 1)], 1⟩ =
      some (.exit 0, ⟨[(0, SL b cm m.length (ints m)), (1, DsT q1 c1 D), (2, ChT q2 c2 X), (8, .sl 0 0 (qs ++ r.map dplc).length 1 none)], [(0, .arr (rowsC (qs ++ r.map dplc)) 0 1)], 1⟩) := by
  intro r
  induction r with
  | nil =>
    intro i qs h1 h2
    have h5 := drop_nil h1
    have h6 : ¬ (i : Int) < D.length := by omega
    rw [lp_eq lp27_5]
    simp (config := { maxSteps := 1000000 }) (disch := omega) only [push_cast, ↓reduceIte, Nat.reduceEqDiff, Nat.reduceAdd, Nat.reduceLT, Nat.reduceLeDiff, Nat.reduceBEq, Nat.reduceMul, Nat.reduceSub, Int.reduceToNat, Int.reduceEq, Int.reduceLT, Int.reduceLE, Int.reduceNeg, Int.reduceAdd, Int.reduceSub, Int.reduceMul, Try.f27, kr27, kp27_27, kp27_19, kp27_13, kp27_5, ow27_27, ow27_19, ow27_13, ow27_5, ty3, ty4, ty22, ty26, ty27, ty34, ty50, ty52, ty70, tb4, h6, List.map_nil, List.append_nil]
  | cons d r ih =>
    intro i qs h1 h2
    obtain ⟨g1, g2, g3⟩ := drop_cons h1
    have g8 : (i : Int) < D.length := by omega
    have hd := hb d (List.mem_of_getElem? g2)
    have hp := c_Places d.1 true true none none d.2.1 d.2.2 (by have := hd.1.1; omega) (by have := hd.1.1; have := hd.2.2.1; omega)
    rw [errD_ok.2 hd] at hp
    have n1 := placesQ_len d.1 d.2.1 d.2.2
    have rl := rowsC_len qs
    have ih' := ih (i + 1) (qs ++ [placesQ d.1 d.2.1 d.2.2]) g3 (by simp [h2])
    have e : qs ++ [placesQ d.1 d.2.1 d.2.2] ++ r.map dplc = qs ++ (d :: r).map dplc := by simp [dplc]
    have e2 : rowsC (qs ++ [placesQ d.1 d.2.1 d.2.2]) = rowsC qs ++ [.s none (placesQ d.1 d.2.1 d.2.2).length (ints (placesQ d.1 d.2.1 d.2.2))] := by simp [rowsC]
    rw [e, e2] at ih'
    simp only [cast1, List.length_append, List.length_cons, List.length_nil, Nat.zero_add, Nat.add_zero, Int.natCast_zero, Int.natCast_add, Int.zero_add, ints_1, ints_0, ] at ih'
    rw [lp_eq lp27_5]
    simp (config := { maxSteps := 1000000 }) (disch := omega) only [push_cast, ↓reduceIte, Nat.reduceEqDiff, Nat.reduceAdd, Nat.reduceLT, Nat.reduceLeDiff, Nat.reduceBEq, Nat.reduceMul, Nat.reduceSub, Int.reduceToNat, Int.reduceEq, Int.reduceLT, Int.reduceLE, Int.reduceNeg, Int.reduceAdd, Int.reduceSub, Int.reduceMul, Try.f27, kr27, kp27_27, kp27_19, kp27_13, kp27_5, ow27_27, ow27_19, ow27_13, ow27_5, ty3, ty4, ty22, ty26, ty27, ty34, ty50, ty52, ty70, tb4, g1, g8, dc0 g2, dc1 g2, dc2 g2, hp, rl, ih', ne_eq]
theorem l_Do13 (qs : List (List Int)) (hq8 : qs.length ≤ 8) (hqD : D.length = qs.length) (hq : ∀ q ∈ qs, q.length ≤ 4000) (hX : (X.length : Int) ≤ 9223372036854775806) : ∀ (r : List ChgQ) (i : Nat), X.drop i = r →
    lp E0 pr0 27 13 ⟨[(0, SL b cm m.length (ints m)), (1, DsT q1 c1 D), (2, ChT q2 c2 X), (8, .sl 0 0 qs.length 1 none), (50, ChT q2 c2 X), (51, I X.length), (52, I i)], [(0, .arr (rowsC qs) 0 1)], 1⟩ =
      if ∀ x ∈ r, okC qs x then some (.exit 2, ⟨[(0, SL b cm m.length (ints m)), (1, DsT q1 c1 D), (2, ChT q2 c2 X), (8, .sl 0 0 qs.length 1 none)], [(0, .arr (rowsC qs) 0 1)], 1⟩)
      else some (.ret, ⟨[(6, .c (.s (some 0) 0 [])), (7, I 2)], [], 0⟩) := by
  intro r
  have hD' : (D.length : Int) = qs.length := by omega
  induction r with
  | nil =>
    intro i h1
    have h5 := drop_nil h1
    have h6 : ¬ (i : Int) < X.length := by omega
    rw [lp_eq lp27_13]
    simp (config := { maxSteps := 1000000 }) (disch := omega) only [push_cast, ↓reduceIte, Nat.reduceEqDiff, Nat.reduceAdd, Nat.reduceLT, Nat.reduceLeDiff, Nat.reduceBEq, Nat.reduceMul, Nat.reduceSub, Int.reduceToNat, Int.reduceEq, Int.reduceLT, Int.reduceLE, Int.reduceNeg, Int.reduceAdd, Int.reduceSub, Int.reduceMul, Try.f27, kr27, kp27_27, kp27_19, kp27_13, kp27_5, ow27_27, ow27_19, ow27_13, ow27_5, ty3, ty4, ty22, ty26, ty27, ty34, ty50, ty52, ty70, tb4, h6]
    simp
  | cons x r ih =>
    intro i h1
    obtain ⟨g1, g2, g3⟩ := drop_cons h1
    have g8 : (i : Int) < X.length := by omega
    have ih' := ih (i + 1) g3
    simp only [cast1, List.length_append, List.length_cons, List.length_nil, Nat.zero_add, Nat.add_zero, Int.natCast_zero, Int.natCast_add, Int.zero_add, ints_1, ints_0, ] at ih'
    have rl := rowsC_len qs
    rw [lp_eq lp27_13]
    by_cases k1 : x.1 < 0
    · have hn : okC qs x = False := eq_false fun h => by have := h.1.1; omega
      simp (config := { maxSteps := 1000000 }) (disch := omega) only [push_cast, ↓reduceIte, Nat.reduceEqDiff, Nat.reduceAdd, Nat.reduceLT, Nat.reduceLeDiff, Nat.reduceBEq, Nat.reduceMul, Nat.reduceSub, Int.reduceToNat, Int.reduceEq, Int.reduceLT, Int.reduceLE, Int.reduceNeg, Int.reduceAdd, Int.reduceSub, Int.reduceMul, Try.f27, kr27, kp27_27, kp27_19, kp27_13, kp27_5, ow27_27, ow27_19, ow27_13, ow27_5, ty3, ty4, ty22, ty26, ty27, ty34, ty50, ty52, ty70, tb4, g1, g8, ch0 g2, ch1 g2, ch2 g2, ch3 g2, k1, hn, List.forall_mem_cons]
    · by_cases k2 : (qs.length : Int) ≤ x.1
      · have hn : okC qs x = False := eq_false fun h => by have := h.1.2; omega
        simp (config := { maxSteps := 1000000 }) (disch := omega) only [push_cast, ↓reduceIte, Nat.reduceEqDiff, Nat.reduceAdd, Nat.reduceLT, Nat.reduceLeDiff, Nat.reduceBEq, Nat.reduceMul, Nat.reduceSub, Int.reduceToNat, Int.reduceEq, Int.reduceLT, Int.reduceLE, Int.reduceNeg, Int.reduceAdd, Int.reduceSub, Int.reduceMul, Try.f27, kr27, kp27_27, kp27_19, kp27_13, kp27_5, ow27_27, ow27_19, ow27_13, ow27_5, ty3, ty4, ty22, ty26, ty27, ty34, ty50, ty52, ty70, tb4, g1, g8, ch0 g2, ch1 g2, ch2 g2, ch3 g2, k1, hD', k2, hn, List.forall_mem_cons]
      · by_cases k3 : x.2.1 < 0
        · have hn : okC qs x = False := eq_false fun h => by have := h.2.1; omega
          simp (config := { maxSteps := 1000000 }) (disch := omega) only [push_cast, ↓reduceIte, Nat.reduceEqDiff, Nat.reduceAdd, Nat.reduceLT, Nat.reduceLeDiff, Nat.reduceBEq, Nat.reduceMul, Nat.reduceSub, Int.reduceToNat, Int.reduceEq, Int.reduceLT, Int.reduceLE, Int.reduceNeg, Int.reduceAdd, Int.reduceSub, Int.reduceMul, Try.f27, kr27, kp27_27, kp27_19, kp27_13, kp27_5, ow27_27, ow27_19, ow27_13, ow27_5, ty3, ty4, ty22, ty26, ty27, ty34, ty50, ty52, ty70, tb4, g1, g8, ch0 g2, ch1 g2, ch2 g2, ch3 g2, k1, hD', k2, k3, hn, List.forall_mem_cons]
        · obtain ⟨n, hn⟩ : ∃ n : Nat, x.1 = n := ⟨x.1.toNat, by omega⟩
          have hnq : n < qs.length := by omega
          have hqn : qs[n]? = some (qs.getD n []) := by simp [hnq]
          have hk : okC qs x ↔ x.2.1 < ((qs.getD n []).length : Int) := by
            unfold okC
            rw [hn, Int.toNat_natCast]
            omega
          have f1 : 0 ≤ (n : Int) := by omega
          have f2 : (n : Int) < qs.length := by omega
          rw [hn] at k1 k2
          by_cases k4 : x.2.1 < ((qs.getD n []).length : Int)
          · have k4' : ¬ ((qs.getD n []).length : Int) ≤ x.2.1 := by omega
            simp (config := { maxSteps := 1000000 }) (disch := omega) only [push_cast, ↓reduceIte, Nat.reduceEqDiff, Nat.reduceAdd, Nat.reduceLT, Nat.reduceLeDiff, Nat.reduceBEq, Nat.reduceMul, Nat.reduceSub, Int.reduceToNat, Int.reduceEq, Int.reduceLT, Int.reduceLE, Int.reduceNeg, Int.reduceAdd, Int.reduceSub, Int.reduceMul, Try.f27, kr27, kp27_27, kp27_19, kp27_13, kp27_5, ow27_27, ow27_19, ow27_13, ow27_5, ty3, ty4, ty22, ty26, ty27, ty34, ty50, ty52, ty70, tb4, g1, g8, ch0 g2, ch1 g2, ch2 g2, ch3 g2, hn, k1, hD', k2, k3, hnq, f1, f2, lc_at hqn, k4', eq_true (hk.2 k4), ih', List.forall_mem_cons]
          · have k4' : ((qs.getD n []).length : Int) ≤ x.2.1 := by omega
            simp (config := { maxSteps := 1000000 }) (disch := omega) only [push_cast, ↓reduceIte, Nat.reduceEqDiff, Nat.reduceAdd, Nat.reduceLT, Nat.reduceLeDiff, Nat.reduceBEq, Nat.reduceMul, Nat.reduceSub, Int.reduceToNat, Int.reduceEq, Int.reduceLT, Int.reduceLE, Int.reduceNeg, Int.reduceAdd, Int.reduceSub, Int.reduceMul, Try.f27, kr27, kp27_27, kp27_19, kp27_13, kp27_5, ow27_27, ow27_19, ow27_13, ow27_5, ty3, ty4, ty22, ty26, ty27, ty34, ty50, ty52, ty70, tb4, g1, g8, ch0 g2, ch1 g2, ch2 g2, ch3 g2, hn, k1, hD', k2, k3, hnq, f1, f2, lc_at hqn, k4', eq_false (fun h => k4 (hk.1 h)), List.forall_mem_cons]
theorem l_Do19 (qs : List (List Int)) (hD : D.length ≤ 8) (hm : (m.length : Int) ≤ 9223372036854775806) (hb : ∀ d ∈ D, okD d.1 d.2.1 d.2.2 ∧ errI m.length d.1 d.2.1 d.2.2 = 0) : ∀ (r : List DscQ) (i : Nat), D.drop i = r →
    lp E0 pr0 27 19 ⟨[(0, SL b cm m.length (ints m)), (2, ChT q2 c2 X), (8, .sl 0 0 qs.length 1 none), (83, DsT q1 c1 D), (84, I D.length), (85, I i)], [(0, .arr (rowsC qs) 0 1)], 1⟩ =
      some (.exit 4, ⟨[(0, SL b cm m.length (ints m)), (2, ChT q2 c2 X), (8, .sl 0 0 qs.length 1 none)], [(0, .arr (rowsC qs) 0 1)], 1⟩) := by
  intro r
  induction r with
  | nil =>
    intro i h1
    have h5 := drop_nil h1
    have h6 : ¬ (i : Int) < D.length := by omega
    rw [lp_eq lp27_19]
    simp (config := { maxSteps := 1000000 }) (disch := omega) only [push_cast, ↓reduceIte, Nat.reduceEqDiff, Nat.reduceAdd, Nat.reduceLT, Nat.reduceLeDiff, Nat.reduceBEq, Nat.reduceMul, Nat.reduceSub, Int.reduceToNat, Int.reduceEq, Int.reduceLT, Int.reduceLE, Int.reduceNeg, Int.reduceAdd, Int.reduceSub, Int.reduceMul, Try.f27, kr27, kp27_27, kp27_19, kp27_13, kp27_5, ow27_27, ow27_19, ow27_13, ow27_5, ty3, ty4, ty22, ty26, ty27, ty34, ty50, ty52, ty70, tb4, h6]
  | cons d r ih =>
    intro i h1
    obtain ⟨g1, g2, g3⟩ := drop_cons h1
    have g8 : (i : Int) < D.length := by omega
    have hd := hb d (List.mem_of_getElem? g2)
    have hp := c_asked d.1 b true true cm none none m d.2.1 d.2.2 (by have := hd.1.1.1; omega) (by have := hd.1.1.1; have := hd.1.2.2.1; omega) hm
    rw [hd.2] at hp
    have ih' := ih (i + 1) g3
    simp only [cast1, List.length_append, List.length_cons, List.length_nil, Nat.zero_add, Nat.add_zero, Int.natCast_zero, Int.natCast_add, Int.zero_add, ints_1, ints_0, ] at ih'
    rw [lp_eq lp27_19]
    simp (config := { maxSteps := 1000000 }) (disch := omega) only [push_cast, ↓reduceIte, Nat.reduceEqDiff, Nat.reduceAdd, Nat.reduceLT, Nat.reduceLeDiff, Nat.reduceBEq, Nat.reduceMul, Nat.reduceSub, Int.reduceToNat, Int.reduceEq, Int.reduceLT, Int.reduceLE, Int.reduceNeg, Int.reduceAdd, Int.reduceSub, Int.reduceMul, Try.f27, kr27, kp27_27, kp27_19, kp27_13, kp27_5, ow27_27, ow27_19, ow27_13, ow27_5, ty3, ty4, ty22, ty26, ty27, ty34, ty50, ty52, ty70, tb4, g1, g8, dc0 g2, dc1 g2, dc2 g2, hp, ih', ne_eq]
theorem l_Do27 (qs : List (List Int)) (hq8 : qs.length ≤ 8) (N : Nat) (hN : N ≤ 16000) (hq : ∀ q ∈ qs, q.length ≤ 4000 ∧ ∀ y ∈ q, 0 ≤ y ∧ y < N) (hX : (X.length : Int) ≤ 9223372036854775806) : ∀ (r : List ChgQ) (i : Nat) (o : List Int) (cp : Option Nat), X.drop i = r → (∀ x ∈ r, okC qs x) → o.length = N →
    lp E0 pr0 27 27 ⟨[(8, .sl 0 0 qs.length 1 none), (19, .sl 1 0 N 1 cp), (101, ChT q2 c2 X), (102, I X.length), (103, I i)], [(0, .arr (rowsC qs) 0 1), (1, .arr (ints o) 1 1)], 2⟩ =
      some (.exit 6, ⟨[(19, .sl 0 0 N 1 cp)], [(0, .arr (ints (doQ qs r o)) 0 1)], 1⟩) := by
  intro r
  induction r with
  | nil =>
    intro i o cp h1 h2 h3
    have h5 := drop_nil h1
    have h6 : ¬ (i : Int) < X.length := by omega
    rw [lp_eq lp27_27]
    simp (config := { maxSteps := 1000000 }) (disch := omega) only [push_cast, ↓reduceIte, Nat.reduceEqDiff, Nat.reduceAdd, Nat.reduceLT, Nat.reduceLeDiff, Nat.reduceBEq, Nat.reduceMul, Nat.reduceSub, Int.reduceToNat, Int.reduceEq, Int.reduceLT, Int.reduceLE, Int.reduceNeg, Int.reduceAdd, Int.reduceSub, Int.reduceMul, Try.f27, kr27, kp27_27, kp27_19, kp27_13, kp27_5, ow27_27, ow27_19, ow27_13, ow27_5, ty3, ty4, ty22, ty26, ty27, ty34, ty50, ty52, ty70, tb4, h6, doQ]
  | cons x r ih =>
    intro i o cp h1 h2 h3
    obtain ⟨g1, g2, g3⟩ := drop_cons h1
    have g8 : (i : Int) < X.length := by omega
    obtain ⟨⟨k1, k2⟩, k3, k4⟩ := h2 x (by simp)
    obtain ⟨n, hn⟩ : ∃ n : Nat, x.1 = n := ⟨x.1.toNat, by omega⟩
    obtain ⟨k, hk⟩ : ∃ k : Nat, x.2.1 = k := ⟨x.2.1.toNat, by omega⟩
    rw [hn, Int.toNat_natCast, hk] at k4
    have hnq : n < qs.length := by omega
    have hqn : qs[n]? = some (qs.getD n []) := by simp [hnq]
    have hqm := hq _ (List.mem_of_getElem? hqn)
    have hkn : k < (qs.getD n []).length := by omega
    have hy : (qs.getD n [])[k]? = some ((qs.getD n []).getD k 0) := gd0 hkn
    obtain ⟨y0, y1⟩ := hqm.2 _ (List.mem_of_getElem? hy)
    obtain ⟨y, hyy⟩ : ∃ y : Nat, (qs.getD n []).getD k 0 = y := ⟨((qs.getD n []).getD k 0).toNat, by omega⟩
    have f1 : 0 ≤ (n : Int) := by omega
    have f2 : (n : Int) < qs.length := by omega
    have f3 : 0 ≤ (k : Int) := by omega
    have f4 : (k : Int) < ((qs.getD n []).length : Int) := by omega
    have f5 : y < N := by omega
    have f6 : (y : Int) < N := by omega
    have rl := rowsC_len qs
    have e : doQ qs (x :: r) o = doQ qs r (o.set y (valQ qs x o)) := by rw [doQ, hn, hk, Int.toNat_natCast, Int.toNat_natCast, hyy, Int.toNat_natCast]
    rw [e]
    have ih' := ih (i + 1) (o.set y (valQ qs x o)) cp g3 (fun z hz => h2 z (by simp [hz])) (by rw [List.length_set]; exact h3)
    have hyo : o[y]? = some (o.getD y 0) := by simp [show y < o.length by omega]
    have z1 : 0 < qs.length := by omega
    have z2 : qs[0]? = some (qs.getD 0 []) := by simp [z1]
    have z3 : (0 : Int) < qs.length := by omega
    have lo : (ints o).length = N := by rw [ints_len]; exact h3
    unfold valQ at ih' ⊢
    cases hadd : x.2.2.2 with
    | false =>
      rw [hadd] at ih'
      simp only [cast1, List.length_append, List.length_cons, List.length_nil, Nat.zero_add, Nat.add_zero, Int.natCast_zero, Int.natCast_add, Int.zero_add, ints_1, ints_0, Bool.false_eq_true, false_and, if_false] at ih'
      rw [lp_eq lp27_27]
      simp (config := { maxSteps := 1000000 }) (disch := omega) only [push_cast, ↓reduceIte, Nat.reduceEqDiff, Nat.reduceAdd, Nat.reduceLT, Nat.reduceLeDiff, Nat.reduceBEq, Nat.reduceMul, Nat.reduceSub, Int.reduceToNat, Int.reduceEq, Int.reduceLT, Int.reduceLE, Int.reduceNeg, Int.reduceAdd, Int.reduceSub, Int.reduceMul, Try.f27, kr27, kp27_27, kp27_19, kp27_13, kp27_5, ow27_27, ow27_19, ow27_13, ow27_5, ty3, ty4, ty22, ty26, ty27, ty34, ty50, ty52, ty70, tb4, g1, g8, ch0 g2, ch1 g2, ch2 g2, ch3 g2, hadd, hn, hk, f1, f2, f3, f4, f5, f6, hnq, hkn, lc_at hqn, hyy, rl, h3, lo, ih', ne_eq]
    | true =>
      rw [hadd] at ih'
      by_cases hz : 0 < (qs.getD 0 []).length
      · have hz' : (0 : Int) < ((qs.getD 0 []).length : Int) := by omega
        have w2 : (qs.getD 0 [])[0]? = some ((qs.getD 0 []).getD 0 0) := gd0 hz
        obtain ⟨w0, w1⟩ := (hq _ (List.mem_of_getElem? z2)).2 _ (List.mem_of_getElem? w2)
        obtain ⟨w, hw⟩ : ∃ w : Nat, (qs.getD 0 []).getD 0 0 = w := ⟨((qs.getD 0 []).getD 0 0).toNat, by omega⟩
        have w3 : w < N := by omega
        have w4 : (w : Int) < N := by omega
        rw [if_pos ⟨rfl, hz⟩, hw, Int.toNat_natCast] at ih' ⊢
        simp only [cast1, List.length_append, List.length_cons, List.length_nil, Nat.zero_add, Nat.add_zero, Int.natCast_zero, Int.natCast_add, Int.zero_add, ints_1, ints_0, ] at ih'
        rw [lp_eq lp27_27]
        simp (config := { maxSteps := 1000000 }) (disch := omega) only [push_cast, ↓reduceIte, Nat.reduceEqDiff, Nat.reduceAdd, Nat.reduceLT, Nat.reduceLeDiff, Nat.reduceBEq, Nat.reduceMul, Nat.reduceSub, Int.reduceToNat, Int.reduceEq, Int.reduceLT, Int.reduceLE, Int.reduceNeg, Int.reduceAdd, Int.reduceSub, Int.reduceMul, Try.f27, kr27, kp27_27, kp27_19, kp27_13, kp27_5, ow27_27, ow27_19, ow27_13, ow27_5, ty3, ty4, ty22, ty26, ty27, ty34, ty50, ty52, ty70, tb4, g1, g8, ch0 g2, ch1 g2, ch2 g2, ch3 g2, hadd, hn, hk, f1, f2, f3, f4, f5, f6, hnq, hkn, lc_at hqn, hyy, z1, z3, lc_at z2, hz, hz', hw, w3, w4, rl, h3, lo, ih', ne_eq]
      · have hz' : ¬ (0 : Int) < ((qs.getD 0 []).length : Int) := by omega
        rw [if_neg (fun h => hz h.2)] at ih' ⊢
        simp only [cast1, List.length_append, List.length_cons, List.length_nil, Nat.zero_add, Nat.add_zero, Int.natCast_zero, Int.natCast_add, Int.zero_add, ints_1, ints_0, ] at ih'
        rw [lp_eq lp27_27]
        simp (config := { maxSteps := 1000000 }) (disch := omega) only [push_cast, ↓reduceIte, Nat.reduceEqDiff, Nat.reduceAdd, Nat.reduceLT, Nat.reduceLeDiff, Nat.reduceBEq, Nat.reduceMul, Nat.reduceSub, Int.reduceToNat, Int.reduceEq, Int.reduceLT, Int.reduceLE, Int.reduceNeg, Int.reduceAdd, Int.reduceSub, Int.reduceMul, Try.f27, kr27, kp27_27, kp27_19, kp27_13, kp27_5, ow27_27, ow27_19, ow27_13, ow27_5, ty3, ty4, ty22, ty26, ty27, ty34, ty50, ty52, ty70, tb4, g1, g8, ch0 g2, ch1 g2, ch2 g2, ch3 g2, hadd, hn, hk, f1, f2, f3, f4, f5, f6, hnq, hkn, lc_at hqn, hyy, z1, z3, lc_at z2, hz', rl, h3, lo, ih', ne_eq]
def errDo (qs : List (List Int)) (X : List ChgQ) : Int := if ∀ x ∈ X, okC qs x then 0 else 2
def doR (qs : List (List Int)) (X : List ChgQ) (m : List Int) : List Int := if ∀ x ∈ X, okC qs x then doQ qs X m else []
theorem c_Do (hm : m.length ≤ 16000) (hD : D.length ≤ 8) (hb : ∀ d ∈ D, okD d.1 d.2.1 d.2.2 ∧ errI m.length d.1 d.2.1 d.2.2 = 0) (hX : (X.length : Int) ≤ 9223372036854775806) :
    CALL 27 [SL b cm m.length (ints m), DsT q1 c1 D, ChT q2 c2 X] = some (.tup [.sl 0 0 (doR (D.map dplc) X m).length 1 none, I (errDo (D.map dplc) X)], [ints (doR (D.map dplc) X m)]) := by
  have h5 := l_Do5 q1 q2 b c1 c2 cm m D X hD (fun d hd => (hb d hd).1) D 0 [] rfl rfl
  have hq : ∀ q ∈ D.map dplc, q.length ≤ 4000 ∧ ∀ y ∈ q, 0 ≤ y ∧ y < m.length := fun q hq => by
    obtain ⟨d, hd, rfl⟩ := List.mem_map.1 hq
    refine ⟨placesQ_len _ _ _, fun y hy => ?_⟩
    have h1 := hb d hd
    have hbase : d.1 ≤ 9223372036854775807 := by
      have := h1.1.2.2.2.2.2
      rcases this with h0 | h0
      · exfalso
        have := plcR_length (b := d.1) h1.1.2.2.1 h1.1.1
        unfold dplc placesQ at hy
        rw [if_pos h1.1] at hy
        rw [h0] at this
        rw [List.length_eq_zero_iff.1 (show (plcR d.1 d.2.1 d.2.2).length = 0 by omega)] at hy
        simp at hy
      · omega
    exact plI_bd hbase (by rw [plI_of h1.2]; exact hy)
  have h13 := l_Do13 q1 q2 b c1 c2 cm m D X (D.map dplc) (by simpa using hD) (by simp) (fun q h => (hq q h).1) hX X 0 rfl
  have h19 := l_Do19 q1 q2 b c1 c2 cm m D X (D.map dplc) hD (by omega) hb D 0 rfl
  rw [List.nil_append] at h5
  unfold errDo doR
  refine lim_run (fn := Try.f27) fn27 rfl body27 (Nat.le_of_ble_eq_true rfl) ok27 ?_
  by_cases hk : ∀ x ∈ X, okC (D.map dplc) x
  · have h27 := l_Do27 q2 c2 X (D.map dplc) (by simpa using hD) m.length hm hq hX X 0 m none rfl hk rfl
    have hc := c_Clone b cm m (by omega)
    have hl := doQ_len (D.map dplc) X m
    rw [if_pos hk] at h13
    rw [show rowsC [] = [] from rfl] at h5
    simp only [cast1, List.length_append, List.length_cons, List.length_nil, Nat.zero_add, Nat.add_zero, Int.natCast_zero, Int.natCast_add, Int.zero_add, ints_1, ints_0, ] at h5 h13 h19 h27
    have m0 : ¬ 16000 < (m.length : Int) := by omega
    have m1 : ¬ 8 < (D.length : Int) := by omega
    rw [if_pos hk, if_pos hk, hl]
    have hr : rowAt (ints (doQ (D.map dplc) X m)) 0 m.length = ints (doQ (D.map dplc) X m) := rowAt_all _ _ (by rw [ints_len, hl])
    simp (config := { maxSteps := 1000000 }) (disch := omega) only [push_cast, ↓reduceIte, Nat.reduceEqDiff, Nat.reduceAdd, Nat.reduceLT, Nat.reduceLeDiff, Nat.reduceBEq, Nat.reduceMul, Nat.reduceSub, Int.reduceToNat, Int.reduceEq, Int.reduceLT, Int.reduceLE, Int.reduceNeg, Int.reduceAdd, Int.reduceSub, Int.reduceMul, Try.f27, kr27, kp27_27, kp27_19, kp27_13, kp27_5, ow27_27, ow27_19, ow27_13, ow27_5, ty3, ty4, ty22, ty26, ty27, ty34, ty50, ty52, ty70, tb4, m0, m1, h5, h13, h19, h27, hc, hr, ne_eq]
  · rw [if_neg hk] at h13
    rw [show rowsC [] = [] from rfl] at h5
    simp only [cast1, List.length_append, List.length_cons, List.length_nil, Nat.zero_add, Nat.add_zero, Int.natCast_zero, Int.natCast_add, Int.zero_add, ints_1, ints_0, ] at h5 h13
    have m0 : ¬ 16000 < (m.length : Int) := by omega
    have m1 : ¬ 8 < (D.length : Int) := by omega
    rw [if_neg hk, if_neg hk]
    simp (config := { maxSteps := 1000000 }) (disch := omega) only [push_cast, ↓reduceIte, Nat.reduceEqDiff, Nat.reduceAdd, Nat.reduceLT, Nat.reduceLeDiff, Nat.reduceBEq, Nat.reduceMul, Nat.reduceSub, Int.reduceToNat, Int.reduceEq, Int.reduceLT, Int.reduceLE, Int.reduceNeg, Int.reduceAdd, Int.reduceSub, Int.reduceMul, Try.f27, kr27, kp27_27, kp27_19, kp27_13, kp27_5, ow27_27, ow27_19, ow27_13, ow27_5, ty3, ty4, ty22, ty26, ty27, ty34, ty50, ty52, ty70, tb4, m0, m1, h5, h13, ne_eq]
end
/-! Where what is packed lies. -/
def tailQ (m : List Int) : List PassQ → List Int
  | [] => []
  | p :: r => (if packedQ p = true then packP m p else []) ++ tailQ m r
def qsQ : List PassQ → Nat → List (List Int)
  | [], _ => []
  | p :: r, t => if packedQ p = true then run t (plP p).length :: qsQ r (t + (plP p).length) else plP p :: qsQ r t
theorem qsQ_len : ∀ (r : List PassQ) (t : Nat), (qsQ r t).length = r.length
  | [], t => rfl
  | p :: r, t => by
    rw [qsQ]
    split
    · rw [List.length_cons, qsQ_len r, List.length_cons]
    · rw [List.length_cons, qsQ_len r, List.length_cons]
theorem pl_pr {p : PassQ} (h : okPs p) : (plP p).length = (pr p.1.2.1).toNat := by
  have := plcR_length (b := p.1.1) h.1.2.2.1 h.1.1
  unfold plP placesQ
  rw [if_pos h.1]
  omega
theorem pack_len {m : List Int} {p : PassQ} (h : errP m p.1.1 p.1.2.1 p.1.2.2 = 0) : (packP m p).length = (plP p).length := by rw [packP_eq h, pickM_len]
theorem ent_lay (m : List Int) : ∀ (r : List PassQ) (out : List Int) (av : List DscQ), (∀ p ∈ r, okPs p ∧ errP m p.1.1 p.1.2.1 p.1.2.2 = 0) → out.length + 4000 * r.length ≤ 100000 →
    (entQ m r (out, av)).1 = out ++ tailQ m r ∧ (entQ m r (out, av)).2.map dplc = av.map dplc ++ qsQ r out.length
  | [], out, av, _, _ => by simp [entQ, tailQ, qsQ]
  | p :: r, out, av, h, hl => by
    have hp := h p (by simp)
    have hr := fun q hq => h q (List.mem_cons_of_mem _ hq)
    have n1 := placesQ_len p.1.1 p.1.2.1 p.1.2.2
    simp only [List.length_cons] at hl
    by_cases hx : packedQ p = true
    · have hc : entQ m (p :: r) (out, av) = entQ m r (out ++ packP m p, av ++ [((out.length : Int), wholeE p.1.2.1, wholeT p.1.2.1)]) := by rw [entQ, if_pos hx]
      have hpl := pack_len hp.2
      have n2 : (packP m p).length ≤ 4000 := by rw [hpl]; exact n1
      obtain ⟨k1, k2⟩ := ent_lay m r (out ++ packP m p) (av ++ [((out.length : Int), wholeE p.1.2.1, wholeT p.1.2.1)]) hr (by rw [List.length_append]; omega)
      have hE : okE p.1.2.1 := ⟨hp.1.1.1, hp.1.1.2.1⟩
      obtain ⟨_, w2⟩ := whole_run (B := out.length) hE (by omega)
      have hd : dplc ((out.length : Int), wholeE p.1.2.1, wholeT p.1.2.1) = run out.length (plP p).length := by
        unfold dplc
        rw [w2, pl_pr hp.1]
      rw [hc, k1, k2, tailQ, qsQ, if_pos hx, if_pos hx, List.map_append, List.length_append, hpl]
      refine ⟨by rw [List.append_assoc], ?_⟩
      simp only [List.map_cons, List.map_nil, hd, List.append_assoc, List.cons_append, List.nil_append]
    · have hc : entQ m (p :: r) (out, av) = entQ m r (out, av ++ [p.1]) := by rw [entQ, if_neg hx]
      obtain ⟨k1, k2⟩ := ent_lay m r out (av ++ [p.1]) hr (by omega)
      rw [hc, k1, k2, tailQ, qsQ, if_neg hx, if_neg hx, List.map_append]
      refine ⟨by simp, ?_⟩
      simp only [List.map_cons, List.map_nil, List.append_assoc, List.cons_append, List.nil_append]
      rfl
theorem qs_get : ∀ (r : List PassQ) (t i : Nat) (p : PassQ), r[i]? = some p → ∃ q, (qsQ r t)[i]? = some q ∧ (packedQ p = false → q = plP p) ∧
    (packedQ p = true → ∃ s : Nat, q = run s (plP p).length ∧ t ≤ s ∧ ∀ j p' q', i < j → r[j]? = some p' → (qsQ r t)[j]? = some q' → packedQ p' = true → ∃ s' : Nat, q' = run s' (plP p').length ∧ s + (plP p).length ≤ s')
  | [], t, i, p, h => by simp at h
  | p0 :: r, t, 0, p, h => by
    simp only [List.getElem?_cons_zero, Option.some.injEq] at h
    subst h
    by_cases hx : packedQ p0 = true
    · rw [qsQ, if_pos hx]
      refine ⟨_, rfl, fun h => (by rw [hx] at h; simp at h), fun _ => ⟨t, rfl, Nat.le_refl _, fun j p' q' hj hp' hq' hk => ?_⟩⟩
      obtain ⟨j, rfl⟩ : ∃ k, j = k + 1 := ⟨j - 1, by omega⟩
      obtain ⟨q'', k1, _, k3⟩ := qs_get r (t + (plP p0).length) j p' (by simpa using hp')
      obtain ⟨s, k4, k5, _⟩ := k3 hk
      have : q' = q'' := by
        have := hq'.symm.trans (show (run t (plP p0).length :: qsQ r (t + (plP p0).length))[j + 1]? = some q'' by simpa using k1)
        exact Option.some.inj this
      exact ⟨s, by rw [this, k4], k5⟩
    · rw [qsQ, if_neg hx]
      exact ⟨_, rfl, fun _ => rfl, fun h => absurd h hx⟩
  | p0 :: r, t, i + 1, p, h => by
    have h' : r[i]? = some p := by simpa using h
    by_cases hx : packedQ p0 = true
    · rw [qsQ, if_pos hx]
      obtain ⟨q, k1, k2, k3⟩ := qs_get r (t + (plP p0).length) i p h'
      refine ⟨q, by simpa using k1, k2, fun hk => ?_⟩
      obtain ⟨s, k4, k5, k6⟩ := k3 hk
      refine ⟨s, k4, by omega, fun j p' q' hj hp' hq' hk' => ?_⟩
      obtain ⟨j, rfl⟩ : ∃ k, j = k + 1 := ⟨j - 1, by omega⟩
      exact k6 j p' q' (by omega) (by simpa using hp') (by simpa using hq') hk'
    · rw [qsQ, if_neg hx]
      obtain ⟨q, k1, k2, k3⟩ := qs_get r t i p h'
      refine ⟨q, by simpa using k1, k2, fun hk => ?_⟩
      obtain ⟨s, k4, k5, k6⟩ := k3 hk
      refine ⟨s, k4, by omega, fun j p' q' hj hp' hq' hk' => ?_⟩
      obtain ⟨j, rfl⟩ : ∃ k, j = k + 1 := ⟨j - 1, by omega⟩
      exact k6 j p' q' (by omega) (by simpa using hp') (by simpa using hq') hk'
/-! Copying back. -/
theorem seg_get (o : List Int) : ∀ (d t k : Nat), k < d → (segQ o t d)[k]? = some (o.getD (t + k) 0)
  | 0, t, k, h => by omega
  | d + 1, t, 0, h => by rw [segQ]; rfl
  | d + 1, t, k + 1, h => by
    rw [segQ, List.getElem?_cons_succ, seg_get o d (t + 1) k (by omega), show t + 1 + k = t + (k + 1) by omega]
theorem set_getD (l : List Int) (i x : Nat) (v : Int) : (l.set i v).getD x 0 = if x = i ∧ i < l.length then v else l.getD x 0 := by
  rw [List.getD_eq_getElem?_getD, List.getElem?_set, List.getD_eq_getElem?_getD]
  by_cases h : i = x
  · subst h
    by_cases h2 : i < l.length
    · simp [h2]
    · simp [h2]
  · rw [if_neg h, if_neg (fun q => h q.1.symm)]
theorem putL_get (f : Nat → Int) : ∀ (P V out : List Int), V.length = P.length → (∀ (k : Nat) (z v : Int), P[k]? = some z → V[k]? = some v → v = f z.toNat) → (∀ z ∈ P, 0 ≤ z ∧ z.toNat < out.length) →
    ∀ x : Nat, x < out.length → (putL P V out).getD x 0 = if (x : Int) ∈ P then f x else out.getD x 0
  | [], V, out, _, _, _, x, _ => by rw [putL, if_neg (by simp)]; intros; simp_all
  | z :: P, [], out, h, _, _, x, _ => by simp at h
  | z :: P, v :: V, out, h, hf, hb, x, hx => by
    rw [putL, putL_get f P V (out.set z.toNat v) (by simpa using h) (fun k z v h1 h2 => hf (k + 1) z v (by simpa using h1) (by simpa using h2)) (fun y hy => by rw [List.length_set]; exact hb y (by simp [hy])) x (by rw [List.length_set]; exact hx), set_getD]
    have hv := hf 0 z v rfl rfl
    obtain ⟨z0, z1⟩ := hb z (by simp)
    by_cases h1 : (x : Int) ∈ P
    · rw [if_pos h1, if_pos (by simp [h1])]
    · rw [if_neg h1]
      by_cases h2 : x = z.toNat
      · rw [if_pos ⟨h2, z1⟩, if_pos (by rw [h2]; simp; left; omega), hv, h2]
      · rw [if_neg (fun q => h2 q.1), if_neg (fun q => by
          rcases List.mem_cons.1 q with q | q
          · omega
          · exact h1 q)]
theorem list_getD {a b : List Int} (hl : a.length = b.length) (h : ∀ x : Nat, x < a.length → a.getD x 0 = b.getD x 0) : a = b := by
  apply List.ext_getElem hl
  intro i h1 h2
  have := h i h1
  rw [List.getD_eq_getElem?_getD, List.getD_eq_getElem?_getD, List.getElem?_eq_getElem h1, List.getElem?_eq_getElem h2] at this
  exact this
theorem lev_fin (o w : List Int) (n : Nat) (hw : w.length = n) : ∀ (r : List PassQ) (t : Nat) (out : List Int), out.length = n → (∀ p ∈ r, ∀ x ∈ plP p, 0 ≤ x ∧ x < n) →
    (∀ (i : Nat) (p : PassQ) (q : List Int) (k : Nat) (x y : Int), r[i]? = some p → (qsQ r t)[i]? = some q → packedQ p = true → chP p = true → (plP p)[k]? = some x → q[k]? = some y → o.getD y.toNat 0 = w.getD x.toNat 0) →
    (∀ x : Nat, x < n → (∀ p ∈ r, packedQ p = true → chP p = true → (x : Int) ∉ plP p) → out.getD x 0 = w.getD x 0) → levQ o r out t = w
  | [], t, out, hl, _, _, h => by
    rw [levQ]
    exact list_getD (by omega) fun x hx => h x (by omega) fun p hp => by simp at hp
  | p :: r, t, out, hl, hb, hq, h => by
    have hb' := fun z hz => hb z (List.mem_cons_of_mem _ hz)
    by_cases hx : packedQ p = true
    · rw [levQ, if_pos hx]
      have hq' : ∀ (i : Nat) (p' : PassQ) (q : List Int) (k : Nat) (x y : Int), r[i]? = some p' → (qsQ r (t + (plP p).length))[i]? = some q → packedQ p' = true → chP p' = true → (plP p')[k]? = some x → q[k]? = some y → o.getD y.toNat 0 = w.getD x.toNat 0 := fun i p' q k x y h1 h2 h3 h4 h5 h6 =>
        hq (i + 1) p' q k x y (by simpa using h1) (by rw [qsQ, if_pos hx]; simpa using h2) h3 h4 h5 h6
      by_cases hc : chP p = true
      · rw [if_pos hc]
        have hget := putL_get (fun x => w.getD x 0) (plP p) (segQ o t (plP p).length) out (segQ_len _ _ _) (fun k z v h1 h2 => by
          have hk : k < (plP p).length := by
            rcases Nat.lt_or_ge k (plP p).length with h' | h'
            · exact h'
            · rw [List.getElem?_eq_none h'] at h1; simp at h1
          rw [seg_get o _ t k hk] at h2
          have := hq 0 p (run t (plP p).length) k z ((t : Int) + k) rfl (by rw [qsQ, if_pos hx]; rfl) hx hc h1 (run_get hk)
          rw [show ((t : Int) + k).toNat = t + k by omega] at this
          exact (Option.some.inj h2).symm.trans this) (fun z hz => by have := hb p (by simp) z hz; omega)
        refine lev_fin o w n hw r _ _ (by rw [putL_len]; exact hl) hb' hq' fun x hxn hno => ?_
        rw [hget x (by omega)]
        by_cases hm : (x : Int) ∈ plP p
        · rw [if_pos hm]
        · rw [if_neg hm]
          refine h x hxn fun z hz h1 h2 => ?_
          rcases List.mem_cons.1 hz with rfl | hz
          · exact hm
          · exact hno z hz h1 h2
      · rw [if_neg hc]
        refine lev_fin o w n hw r _ _ hl hb' hq' fun x hxn hno => h x hxn fun z hz h1 h2 => ?_
        rcases List.mem_cons.1 hz with rfl | hz
        · exact absurd h2 hc
        · exact hno z hz h1 h2
    · rw [levQ, if_neg hx]
      refine lev_fin o w n hw r t out hl hb' (fun i p' q k x y h1 h2 h3 h4 h5 h6 => hq (i + 1) p' q k x y (by simpa using h1) (by rw [qsQ, if_neg hx]; simpa using h2) h3 h4 h5 h6) fun x hxn hno => h x hxn fun z hz h1 h2 => ?_
      rcases List.mem_cons.1 hz with rfl | hz
      · exact absurd h1 hx
      · exact hno z hz h1 h2
/-! What the deeds make of the elements. -/
def spV (m : List Int) (v0 : Bool) (ps : List (List Int)) (x : ChgQ) (w : List Int) : Int :=
  if x.2.2.2 = true ∧ 0 < (ps.getD 0 []).length then IntKind.i64.wrap (x.2.2.1 + (if v0 = true then m else w).getD ((ps.getD 0 []).getD 0 0).toNat 0) else x.2.2.1
def doS (m : List Int) (v0 : Bool) (ps : List (List Int)) : List ChgQ → List Int → List Int
  | [], w => w
  | x :: r, w => doS m v0 ps r (w.set ((ps.getD x.1.toNat []).getD x.2.1.toNat 0).toNat (spV m v0 ps x w))
theorem doS_len (m : List Int) (v0 : Bool) (ps : List (List Int)) : ∀ (r : List ChgQ) (w : List Int), (doS m v0 ps r w).length = w.length
  | [], w => rfl
  | x :: r, w => by rw [doS, doS_len m v0 ps r, List.length_set]
def val0 : List PassQ → Bool
  | p :: _ => decide (p.2.1 = (ByteArray.mk #[118, 97, 108, 117, 101]))
  | [] => false
/-- What is known of the places. -/
structure GoodP (m : List Int) (l : List PassQ) (qs : List (List Int)) (N : Nat) : Prop where
  len : qs.length = l.length
  mN : m.length ≤ N
  pb : ∀ p ∈ l, ∀ x ∈ plP p, 0 ≤ x ∧ x < m.length
  qb : ∀ q ∈ qs, ∀ y ∈ q, 0 ≤ y ∧ y < N
  sh : ∀ (i : Nat) p q, l[i]? = some p → qs[i]? = some q → (packedQ p = false → q = plP p) ∧ (packedQ p = true → ∃ t : Nat, q = run t (plP p).length ∧ m.length ≤ t)
  sep : ∀ (i j : Nat) p p' q q', i ≠ j → l[i]? = some p → l[j]? = some p' → qs[i]? = some q → qs[j]? = some q' → packedQ p = true → ∀ y ∈ q, y ∉ q'
  nal : ∀ (i j : Nat) p p', i ≠ j → l[i]? = some p → l[j]? = some p' → p.2.1 ≠ (ByteArray.mk #[118, 97, 108, 117, 101]) → p'.2.1 ≠ (ByteArray.mk #[118, 97, 108, 117, 101]) → p.2.2 = true → ∀ x ∈ plP p, x ∉ plP p'
  nd : ∀ p ∈ l, p.2.1 ≠ (ByteArray.mk #[118, 97, 108, 117, 101]) → p.2.2 = true → (plP p).Nodup
structure WR (m : List Int) (l : List PassQ) (qs : List (List Int)) (N : Nat) (o w : List Int) : Prop where
  ol : o.length = N
  wl : w.length = m.length
  r1 : ∀ (i : Nat) p q (k : Nat) x y, l[i]? = some p → qs[i]? = some q → (plP p)[k]? = some x → q[k]? = some y → o.getD y.toNat 0 = (if p.2.1 = (ByteArray.mk #[118, 97, 108, 117, 101]) then m else w).getD x.toNat 0
  r3 : ∀ x : Nat, x < m.length → (∀ p ∈ l, packedQ p = true → chP p = true → (x : Int) ∉ plP p) → o.getD x 0 = w.getD x 0
theorem share_not_value {p : PassQ} (h : packedQ p = false) : p.2.1 ≠ (ByteArray.mk #[118, 97, 108, 117, 101]) := by
  intro e
  unfold packedQ at h
  rw [e, if_neg nVA] at h
  rw [decide_eq_true nVS] at h
  simp at h
theorem GoodP.qlen {m : List Int} {l : List PassQ} {qs : List (List Int)} {N : Nat} (g : GoodP m l qs N) {i : Nat} {p : PassQ} {q : List Int} (h1 : l[i]? = some p) (h2 : qs[i]? = some q) : q.length = (plP p).length := by
  obtain ⟨k1, k2⟩ := g.sh i p q h1 h2
  cases h : packedQ p with
  | false => rw [k1 h]
  | true =>
    obtain ⟨t, k3, _⟩ := k2 h
    rw [k3, run_len]
theorem get_mem {l : List Int} {k : Nat} {x : Int} (h : l[k]? = some x) : x ∈ l := List.mem_of_getElem? h
theorem get_lt {α : Type} {l : List α} {k : Nat} {x : α} (h : l[k]? = some x) : k < l.length := by
  rcases Nat.lt_or_ge k l.length with h' | h'
  · exact h'
  · rw [List.getElem?_eq_none h'] at h; simp at h
theorem WR.step {m : List Int} {l : List PassQ} {qs : List (List Int)} {N : Nat} (g : GoodP m l qs N) {o w : List Int} (h : WR m l qs N o w) {i : Nat} {p : PassQ} {q : List Int} {k : Nat} {x0 y0 : Int} (hp : l[i]? = some p) (hq : qs[i]? = some q) (hv : p.2.1 ≠ (ByteArray.mk #[118, 97, 108, 117, 101])) (hc : p.2.2 = true)
    (hx : (plP p)[k]? = some x0) (hy : q[k]? = some y0) (v : Int) : WR m l qs N (o.set y0.toNat v) (w.set x0.toNat v) := by
  have hxm := g.pb p (List.mem_of_getElem? hp) x0 (get_mem hx)
  have hym := g.qb q (List.mem_of_getElem? hq) y0 (get_mem hy)
  have hch : chP p = true := by unfold chP; rw [hc, decide_eq_true hv]; rfl
  obtain ⟨s1, s2⟩ := g.sh i p q hp hq
  -- the same argument, another element
  have same : ∀ (k' : Nat) x y, (plP p)[k']? = some x → q[k']? = some y → k' ≠ k → x ≠ x0 ∧ y ≠ y0 := fun k' x y h1 h2 hne => by
    have hx' : x ≠ x0 := fun e => hne (by
      subst e
      exact (List.getElem?_inj (get_lt h1) (g.nd p (List.mem_of_getElem? hp) hv hc)).1 (h1.trans hx.symm))
    refine ⟨hx', ?_⟩
    cases hpk : packedQ p with
    | false =>
      have := s1 hpk
      subst this
      rw [h1] at h2
      rw [hx] at hy
      rw [← Option.some.inj h2, ← Option.some.inj hy]
      exact hx'
    | true =>
      obtain ⟨t, e, _⟩ := s2 hpk
      subst e
      rw [run_get (get_lt h1)] at h2
      rw [run_get (get_lt hx)] at hy
      have := Option.some.inj h2
      have := Option.some.inj hy
      omega
  have other : ∀ (j : Nat) p' q', j ≠ i → l[j]? = some p' → qs[j]? = some q' → y0 ∉ q' := fun j p' q' hj h1 h2 => by
    cases hpk : packedQ p with
    | true => exact g.sep i j p p' q q' (Ne.symm hj) hp h1 hq h2 hpk y0 (get_mem hy)
    | false =>
      cases hpk' : packedQ p' with
      | true => exact fun hm => g.sep j i p' p q' q hj h1 hp h2 hq hpk' y0 hm (get_mem hy)
      | false =>
        have e1 := s1 hpk
        have e2 := (g.sh j p' q' h1 h2).1 hpk'
        subst e1 e2
        exact g.nal i j p p' (Ne.symm hj) hp h1 hv (share_not_value hpk') hc y0 (get_mem hy)
  refine ⟨by rw [List.length_set]; exact h.ol, by rw [List.length_set]; exact h.wl, fun j p' q' k' x y h1 h2 h3 h4 => ?_, fun x hxl hno => ?_⟩
  · have hr := h.r1 j p' q' k' x y h1 h2 h3 h4
    have hxb := g.pb p' (List.mem_of_getElem? h1) x (get_mem h3)
    have hyb := g.qb q' (List.mem_of_getElem? h2) y (get_mem h4)
    rw [set_getD]
    by_cases hj : j = i
    · subst hj
      rw [hp] at h1
      rw [hq] at h2
      obtain rfl := Option.some.inj h1
      obtain rfl := Option.some.inj h2
      rw [if_neg hv] at hr ⊢
      rw [set_getD]
      by_cases hk : k' = k
      · subst hk
        rw [hx] at h3
        rw [hy] at h4
        obtain rfl := Option.some.inj h3
        obtain rfl := Option.some.inj h4
        rw [if_pos ⟨rfl, by have := h.ol; omega⟩, if_pos ⟨rfl, by have := h.wl; omega⟩]
      · obtain ⟨d1, d2⟩ := same k' x y h3 h4 hk
        rw [if_neg (fun e => d2 (by omega)), if_neg (fun e => d1 (by omega))]
        exact hr
    · have hn := other j p' q' hj h1 h2
      have hyy : y ≠ y0 := fun e => hn (e ▸ get_mem h4)
      rw [if_neg (fun e => hyy (by omega)), hr]
      by_cases hvv : p'.2.1 = (ByteArray.mk #[118, 97, 108, 117, 101])
      · rw [if_pos hvv, if_pos hvv]
      · rw [if_neg hvv, if_neg hvv, set_getD]
        have hxx : x ≠ x0 := fun e => g.nal i j p p' (Ne.symm hj) hp h1 hv hvv hc x0 (get_mem hx) (e ▸ get_mem h3)
        rw [if_neg (fun e => hxx (by omega))]
  · have hr := h.r3 x hxl hno
    rw [set_getD, set_getD]
    cases hpk : packedQ p with
    | true =>
      obtain ⟨t, e, ht⟩ := s2 hpk
      subst e
      rw [run_get (get_lt hx)] at hy
      have hy := Option.some.inj hy
      have hxx : (x : Int) ≠ x0 := fun e => hno p (List.mem_of_getElem? hp) hpk hch (by rw [e]; exact get_mem hx)
      rw [if_neg (fun e => by omega), if_neg (fun e => hxx (by omega))]
      exact hr
    | false =>
      have e := s1 hpk
      subst e
      rw [hx] at hy
      obtain rfl := Option.some.inj hy
      by_cases hxx : x = x0.toNat
      · rw [if_pos ⟨hxx, by have := h.ol; have := g.mN; omega⟩, if_pos ⟨hxx, by have := h.wl; omega⟩]
      · rw [if_neg (fun e => hxx e.1), if_neg (fun e => hxx e.1)]
        exact hr
/-- A deed that the law lets through. -/
def okDeed (l : List PassQ) (x : ChgQ) : Prop := 0 ≤ x.1 ∧ ∃ p, l[x.1.toNat]? = some p ∧ p.2.2 = true ∧ p.2.1 ≠ (ByteArray.mk #[118, 97, 108, 117, 101])
theorem val_eq {m : List Int} {l : List PassQ} {qs : List (List Int)} {N : Nat} (g : GoodP m l qs N) {o w : List Int} (h : WR m l qs N o w) (hl : l ≠ []) (x : ChgQ) : valQ qs x o = spV m (val0 l) (l.map plP) x w := by
  obtain ⟨p, r, rfl⟩ : ∃ p r, l = p :: r := by cases l with | nil => exact absurd rfl hl | cons p r => exact ⟨p, r, rfl⟩
  have hq0 : 0 < qs.length := by rw [g.len]; simp
  have hq : qs[0]? = some (qs.getD 0 []) := gd0 hq0
  have hlen := g.qlen (i := 0) rfl hq
  have hp0 : ((p :: r).map plP).getD 0 [] = plP p := rfl
  unfold valQ spV
  rw [hp0, hlen]
  by_cases hc : x.2.2.2 = true ∧ 0 < (plP p).length
  · rw [if_pos hc, if_pos hc]
    have e := h.r1 0 p _ 0 _ _ rfl hq (gd0 (d := 0) hc.2) (gd0 (d := 0) (by rw [hlen]; exact hc.2))
    rw [e]
    show _ = IntKind.i64.wrap (x.2.2.1 + (if decide (p.2.1 = (ByteArray.mk #[118, 97, 108, 117, 101])) = true then m else w).getD ((plP p).getD 0 0).toNat 0)
    by_cases hv : p.2.1 = (ByteArray.mk #[118, 97, 108, 117, 101])
    · rw [if_pos hv, decide_eq_true hv, if_pos rfl]
    · rw [if_neg hv, decide_eq_false hv, if_neg (by simp)]
  · rw [if_neg hc, if_neg hc]
theorem do_run {m : List Int} {l : List PassQ} {qs : List (List Int)} {N : Nat} (g : GoodP m l qs N) : ∀ (X : List ChgQ) (o w : List Int), (∀ x ∈ X, okDeed l x ∧ okC qs x) → WR m l qs N o w → WR m l qs N (doQ qs X o) (doS m (val0 l) (l.map plP) X w)
  | [], o, w, _, h => h
  | x :: X, o, w, hX, h => by
    obtain ⟨⟨h0, p, hp, hc, hv⟩, hk⟩ := hX x (by simp)
    obtain ⟨⟨_, k1⟩, k2, k3⟩ := hk
    have hi : x.1.toNat < qs.length := by omega
    have hq : qs[x.1.toNat]? = some (qs.getD x.1.toNat []) := gd0 hi
    have hlen := g.qlen hp hq
    have hkk : x.2.1.toNat < (qs.getD x.1.toNat []).length := by omega
    have hps : (l.map plP).getD x.1.toNat [] = plP p := by rw [List.getD_eq_getElem?_getD, List.getElem?_map, hp]; rfl
    have hl : l ≠ [] := by rintro rfl; simp at hp
    rw [doQ, doS, val_eq g h hl x, hps]
    exact do_run g X _ _ (fun z hz => hX z (by simp [hz])) (h.step g hp hq hv hc (gd0 (by rw [← hlen]; exact hkk)) (gd0 hkk) _)
/-! Who shares. -/
theorem first_none (p : PassQ) : ∀ (r : List PassQ) (k : Nat), firstQ p r k = none → ∀ q ∈ r, ¬ (shareP p q = true ∧ q.2.1 ≠ (ByteArray.mk #[118, 97, 108, 117, 101]) ∧ (p.2.2 = true ∨ q.2.2 = true))
  | [], k, _, q, h => by simp at h
  | z :: r, k, h, q, hq => by
    rw [firstQ] at h
    split at h
    · simp at h
    · rename_i hn
      rcases List.mem_cons.1 hq with rfl | hq
      · exact hn
      · exact first_none p r (k + 1) h q hq
theorem alias_none : ∀ (r : List PassQ) (a : Nat), aliasG r a = none → (∀ p ∈ r, p.2.1 ≠ (ByteArray.mk #[118, 97, 108, 117, 101]) → p.2.2 = true → dupP p = false) ∧
    ∀ (i j : Nat) p q, i < j → r[i]? = some p → r[j]? = some q → p.2.1 ≠ (ByteArray.mk #[118, 97, 108, 117, 101]) → ¬ (shareP p q = true ∧ q.2.1 ≠ (ByteArray.mk #[118, 97, 108, 117, 101]) ∧ (p.2.2 = true ∨ q.2.2 = true))
  | [], a, _ => ⟨fun p h => by simp at h, fun i j p q _ h => by simp at h⟩
  | z :: r, a, h => by
    rw [aliasG] at h
    have tl : aliasG r (a + 1) = none := by
      split at h
      · exact h
      · split at h
        · simp at h
        · split at h
          · simp at h
          · exact h
    obtain ⟨k1, k2⟩ := alias_none r (a + 1) tl
    refine ⟨fun p hp hv hc => ?_, fun i j p q hij hp hq hv => ?_⟩
    · rcases List.mem_cons.1 hp with rfl | hp
      · rw [if_neg hv] at h
        cases hd : dupP p with
        | false => rfl
        | true => rw [if_pos ⟨hc, hd⟩] at h; simp at h
      · exact k1 p hp hv hc
    · obtain ⟨j, rfl⟩ : ∃ k, j = k + 1 := ⟨j - 1, by omega⟩
      cases i with
      | zero =>
        simp only [List.getElem?_cons_zero, Option.some.injEq] at hp
        subst hp
        rw [if_neg hv] at h
        split at h
        · simp at h
        · split at h
          · simp at h
          · rename_i hf
            exact first_none z r 0 hf q (List.mem_of_getElem? (by simpa using hq))
      | succ i => exact k2 i j p q (by omega) (by simpa using hp) (by simpa using hq) hv
theorem share_iff {p q : PassQ} (hp : okD p.1.1 p.1.2.1 p.1.2.2) (hq : okD q.1.1 q.1.2.1 q.1.2.2) {x : Int} (h1 : x ∈ plP p) (h2 : x ∈ plP q) : shareP p q = true ∧ shareP q p = true := by
  have e1 : placesQ p.1.1 p.1.2.1 p.1.2.2 = plcR p.1.1 p.1.2.1 p.1.2.2 := if_pos hp
  have e2 : placesQ q.1.1 q.1.2.1 q.1.2.2 = plcR q.1.1 q.1.2.1 q.1.2.2 := if_pos hq
  unfold plP at h1 h2
  unfold shareP shareQ
  constructor
  all_goals simp only [Bool.and_eq_true, decide_eq_true_eq, List.any_eq_true, List.contains_iff_mem]
  · exact ⟨⟨hp, hq⟩, x, by first | exact h2 | exact h1, by first | exact h1 | exact h2⟩
  · exact ⟨⟨hq, hp⟩, x, by first | exact h1 | exact h2, by first | exact h2 | exact h1⟩
/-- The ways of passing. -/
def ownL (h : ByteArray) (l : List PassQ) : List PassQ := l.map fun p => if p.2.1 = (ByteArray.mk #[118, 97, 108, 117, 101]) then p else (p.1, h, p.2.2)
theorem own_get {h : ByteArray} (hh : h ≠ (ByteArray.mk #[118, 97, 108, 117, 101])) {l : List PassQ} {i : Nat} {p' : PassQ} (e : (ownL h l)[i]? = some p') : ∃ p, l[i]? = some p ∧ plP p' = plP p ∧ p'.1 = p.1 ∧ p'.2.2 = p.2.2 ∧ (p'.2.1 = (ByteArray.mk #[118, 97, 108, 117, 101]) ↔ p.2.1 = (ByteArray.mk #[118, 97, 108, 117, 101])) := by
  unfold ownL at e
  rw [List.getElem?_map] at e
  obtain ⟨p, h1, h2⟩ := Option.map_eq_some_iff.1 e
  refine ⟨p, h1, ?_⟩
  by_cases hv : p.2.1 = (ByteArray.mk #[118, 97, 108, 117, 101])
  · rw [if_pos hv] at h2; subst h2; exact ⟨rfl, rfl, rfl, Iff.rfl⟩
  · rw [if_neg hv] at h2; subst h2; exact ⟨rfl, rfl, rfl, ⟨fun q => absurd q hh, fun q => absurd q hv⟩⟩
theorem own_pl (h : ByteArray) (l : List PassQ) : (ownL h l).map plP = l.map plP := by
  unfold ownL
  rw [List.map_map]
  refine List.map_congr_left fun p _ => ?_
  show plP (if p.2.1 = (ByteArray.mk #[118, 97, 108, 117, 101]) then p else (p.1, h, p.2.2)) = plP p
  split <;> rfl
theorem own_val {h : ByteArray} (hh : h ≠ (ByteArray.mk #[118, 97, 108, 117, 101])) (l : List PassQ) : val0 (ownL h l) = val0 l := by
  cases l with
  | nil => rfl
  | cons p r =>
    show decide ((if p.2.1 = (ByteArray.mk #[118, 97, 108, 117, 101]) then p else (p.1, h, p.2.2)).2.1 = (ByteArray.mk #[118, 97, 108, 117, 101])) = decide (p.2.1 = (ByteArray.mk #[118, 97, 108, 117, 101]))
    by_cases hv : p.2.1 = (ByteArray.mk #[118, 97, 108, 117, 101])
    · rw [if_pos hv]
    · rw [if_neg hv, decide_eq_false hv, decide_eq_false hh]
theorem run_mem {b : Int} {n : Nat} {y : Int} : y ∈ run b n ↔ b ≤ y ∧ y < b + n := by
  unfold run
  simp only [List.mem_map, List.mem_range]
  constructor
  · rintro ⟨t, ht, rfl⟩; omega
  · rintro ⟨h1, h2⟩; exact ⟨(y - b).toNat, by omega, by omega⟩
/-- What Enter leaves is good. -/
theorem good_of {m : List Int} {l : List PassQ} {h : ByteArray} (hh : h ≠ (ByteArray.mk #[118, 97, 108, 117, 101])) (hb : ∀ p ∈ ownL h l, bdP p) (hal : aliasG l 0 = none) (h0 : errEnt m (ownL h l) = 0) :
    GoodP m (ownL h l) ((entR m (ownL h l)).2.map dplc) (entR m (ownL h l)).1.length ∧ WR m (ownL h l) ((entR m (ownL h l)).2.map dplc) (entR m (ownL h l)).1.length (entR m (ownL h l)).1 m ∧
      ((entR m (ownL h l)).2.map dplc = qsQ (ownL h l) m.length) ∧ (entR m (ownL h l)).1.length = m.length + roomN (ownL h l) ∧ (∃ t, (entR m (ownL h l)).1 = m ++ t) ∧
      (∀ d ∈ (entR m (ownL h l)).2, okD d.1 d.2.1 d.2.2 ∧ errI (entR m (ownL h l)).1.length d.1 d.2.1 d.2.2 = 0) ∧ (entR m (ownL h l)).2.length = (ownL h l).length := by
  obtain ⟨e1, e2, e3, e4, e5⟩ := ent_ok m (ownL h l) hb h0
  have hA := errA_mem e5
  have hP : ∀ p ∈ ownL h l, errP m p.1.1 p.1.2.1 p.1.2.2 = 0 := fun p hp => by unfold errP; rw [if_neg (by omega)]; exact hA p hp
  have e30 := e3.1
  obtain ⟨l1, l2⟩ := ent_lay m (ownL h l) m [] (fun p hp => ⟨e3.2 p hp, hP p hp⟩) (by omega)
  obtain ⟨_, l3⟩ := lev_back m (ownL h l) m [] hP
  rw [List.map_nil, List.nil_append] at l2
  obtain ⟨_, u, u1, u2, _⟩ := ent_spec m (ownL h l) m []
  have hDl : (entQ m (ownL h l) (m, [])).2.length = (ownL h l).length := by rw [u1]; simpa using u2
  rw [e1]
  -- what is seen, argument by argument
  have hs : ∀ (i : Nat) p q, (ownL h l)[i]? = some p → ((entQ m (ownL h l) (m, [])).2.map dplc)[i]? = some q → sees m (entQ m (ownL h l) (m, [])).1 (plP p) q p.2.1 := fun i p q h1 h2 => by
    rw [List.getElem?_map] at h2
    obtain ⟨d, h3, rfl⟩ := Option.map_eq_some_iff.1 h2
    exact (sees_of h1 (hb p (List.mem_of_getElem? h1)) (e3.2 p (List.mem_of_getElem? h1)) (by omega) (by omega) (hA p (List.mem_of_getElem? h1)) h3).2.1
  have hix : ∀ (i : Nat) q, ((entQ m (ownL h l) (m, [])).2.map dplc)[i]? = some q → ∃ p, (ownL h l)[i]? = some p := fun i q h2 => by
    have := get_lt h2
    rw [List.length_map, hDl] at this
    exact ⟨_, List.getElem?_eq_getElem this⟩
  have hpb : ∀ p ∈ ownL h l, ∀ x ∈ plP p, 0 ≤ x ∧ x < m.length := fun p hp x hx => plI_bd (hb p hp).1 (by rw [plI_of (hA p hp)]; exact hx)
  have hqb : ∀ q ∈ (entQ m (ownL h l) (m, [])).2.map dplc, ∀ y ∈ q, 0 ≤ y ∧ y < (entQ m (ownL h l) (m, [])).1.length := fun q hq y hy => by
    obtain ⟨i, hi⟩ := List.getElem?_of_mem hq
    obtain ⟨p, hp⟩ := hix i q hi
    obtain ⟨s1, s2⟩ := hs i p q hp hi
    obtain ⟨k, hk⟩ := List.getElem?_of_mem hy
    have hkl : k < (plP p).length := by rw [s1]; exact get_lt hk
    exact (s2 k _ y (List.getElem?_eq_getElem hkl) hk).2.1
  obtain ⟨a1, a2⟩ := alias_none l 0 hal
  have g : GoodP m (ownL h l) ((entQ m (ownL h l) (m, [])).2.map dplc) (entQ m (ownL h l) (m, [])).1.length := {
    len := by rw [List.length_map, hDl]
    mN := by rw [l3]; omega
    pb := hpb
    qb := hqb
    sh := fun i p q h1 h2 => by
      rw [l2] at h2
      obtain ⟨q', k1, k2, k3⟩ := qs_get (ownL h l) m.length i p h1
      rw [k1] at h2
      obtain rfl := Option.some.inj h2
      exact ⟨k2, fun hk => by obtain ⟨s, k4, k5, _⟩ := k3 hk; exact ⟨s, k4, k5⟩⟩
    sep := fun i j p p' q q' hij h1 h2 h3 h4 hpk y hy hy' => by
      rw [l2] at h3 h4
      obtain ⟨q1, k1, k2, k3⟩ := qs_get (ownL h l) m.length i p h1
      obtain ⟨q2, m1, m2, m3⟩ := qs_get (ownL h l) m.length j p' h2
      rw [k1] at h3
      obtain rfl := Option.some.inj h3
      rw [m1] at h4
      obtain rfl := Option.some.inj h4
      obtain ⟨s, k4, k5, k6⟩ := k3 hpk
      rw [k4, run_mem] at hy
      cases hpk' : packedQ p' with
      | false =>
        rw [m2 hpk'] at hy'
        have := hpb p' (List.mem_of_getElem? h2) y hy'
        omega
      | true =>
        obtain ⟨s', m4, m5, m6⟩ := m3 hpk'
        rw [m4, run_mem] at hy'
        rcases Nat.lt_or_ge i j with hlt | hge
        · obtain ⟨s2, z1, z2⟩ := k6 j p' q2 hlt h2 m1 hpk'
          have : y ∈ q2 := by rw [m4, run_mem]; exact hy'
          rw [z1, run_mem] at this
          omega
        · obtain ⟨s2, z1, z2⟩ := m6 i p q1 (by omega) h1 k1 hpk
          have : y ∈ q1 := by rw [k4, run_mem]; exact hy
          rw [z1, run_mem] at this
          omega
    nal := fun i j p p' hij h1 h2 hv hv' hc x hx hx' => by
      obtain ⟨o, o1, o2, o3, o4, o5⟩ := own_get hh h1
      obtain ⟨o', r1, r2, r3, r4, r5⟩ := own_get hh h2
      have d1 : okD o.1.1 o.1.2.1 o.1.2.2 := by have := (e3.2 p (List.mem_of_getElem? h1)).1; rwa [o3] at this
      have d2 : okD o'.1.1 o'.1.2.1 o'.1.2.2 := by have := (e3.2 p' (List.mem_of_getElem? h2)).1; rwa [r3] at this
      rw [o2] at hx
      rw [r2] at hx'
      obtain ⟨z1, z2⟩ := share_iff d1 d2 hx hx'
      rcases Nat.lt_or_ge i j with hlt | hge
      · exact a2 i j o o' hlt o1 r1 (fun e => hv (o5.2 e)) ⟨z1, fun e => hv' (r5.2 e), .inl (by rw [← o4]; exact hc)⟩
      · exact a2 j i o' o (by omega) r1 o1 (fun e => hv' (r5.2 e)) ⟨z2, fun e => hv (o5.2 e), .inr (by rw [← o4]; exact hc)⟩
    nd := fun p hp hv hc => by
      obtain ⟨i, hi⟩ := List.getElem?_of_mem hp
      obtain ⟨o, o1, o2, o3, o4, o5⟩ := own_get hh hi
      have := a1 o (List.mem_of_getElem? o1) (fun e => hv (o5.2 e)) (by rw [← o4]; exact hc)
      unfold dupP at this
      rw [o2]
      simpa [plP] using this }
  refine ⟨g, ⟨rfl, rfl, fun i p q k x y h1 h2 h3 h4 => ?_, fun x hx _ => ?_⟩, l2, l3, ⟨_, l1⟩, fun d hd => ?_, hDl⟩
  · have := (hs i p q h1 h2).2 k x y h3 h4
    rw [this.2.2.1]
    split <;> rfl
  · rw [l1, getD_app1 hx]
  · obtain ⟨i, hi⟩ := List.getElem?_of_mem hd
    have hil : i < (ownL h l).length := by have := get_lt hi; omega
    have hp : (ownL h l)[i]? = some (ownL h l)[i] := List.getElem?_eq_getElem hil
    obtain ⟨s1, s2, _⟩ := sees_of hp (hb _ (List.mem_of_getElem? hp)) (e3.2 _ (List.mem_of_getElem? hp)) (by omega) (by omega) (hA _ (List.mem_of_getElem? hp)) hi
    refine ⟨s1, errI_ok.2 ⟨s1, ?_⟩⟩
    unfold outQ
    rw [List.any_eq_false]
    intro y hy
    have := hqb (dplc d) (List.mem_map.2 ⟨d, hd, rfl⟩) y hy
    simp only [decide_eq_true_eq]
    omega
/-- All ways leave the same memory. -/
theorem ways_fin {m : List Int} {l : List PassQ} {h : ByteArray} (hh : h ≠ (ByteArray.mk #[118, 97, 108, 117, 101])) (hb : ∀ p ∈ ownL h l, bdP p) (hal : aliasG l 0 = none) (h0 : errEnt m (ownL h l) = 0) (X : List ChgQ) (hX : ∀ x ∈ X, okDeed l x) (hk : ∀ x ∈ X, okC ((entR m (ownL h l)).2.map dplc) x) :
    errL (doQ ((entR m (ownL h l)).2.map dplc) X (entR m (ownL h l)).1) (ownL h l) m.length = 0 ∧ levR (doQ ((entR m (ownL h l)).2.map dplc) X (entR m (ownL h l)).1) (ownL h l) m.length = doS m (val0 l) (l.map plP) X m := by
  obtain ⟨g, w, z1, z2, ⟨t, z3⟩, z4, z5⟩ := good_of hh hb hal h0
  obtain ⟨e1, e2, e3, e4, e5⟩ := ent_ok m (ownL h l) hb h0
  have hX' : ∀ x ∈ X, okDeed (ownL h l) x ∧ okC ((entR m (ownL h l)).2.map dplc) x := fun x hx => by
    obtain ⟨d0, p, d1, d2, d3⟩ := hX x hx
    refine ⟨⟨d0, (if p.2.1 = (ByteArray.mk #[118, 97, 108, 117, 101]) then p else (p.1, h, p.2.2)), by unfold ownL; rw [List.getElem?_map, d1]; rfl, ?_, ?_⟩, hk x hx⟩
    · rw [if_neg d3]; exact d2
    · rw [if_neg d3]; exact hh
  have wf := do_run g X _ _ hX' w
  rw [own_pl, own_val hh] at wf
  have hr := roomN_eq (ownL h l)
  have hol := wf.ol
  have hL : errL (doQ ((entR m (ownL h l)).2.map dplc) X (entR m (ownL h l)).1) (ownL h l) m.length = 0 := by
    unfold errL
    rw [if_pos ⟨⟨⟨by omega, by omega⟩, by omega, by omega⟩, e3⟩, Int.toNat_natCast, e5]
  refine ⟨hL, ?_⟩
  unfold levR
  rw [if_pos hL, Int.toNat_natCast]
  refine lev_fin _ _ m.length (by rw [doS_len]) (ownL h l) m.length _ (by rw [List.length_take]; have := g.mN; omega) g.pb (fun i p q k x y h1 h2 h3 h4 h5 h6 => ?_) fun x hx hno => ?_
  · have hv : p.2.1 ≠ (ByteArray.mk #[118, 97, 108, 117, 101]) := by
      intro e
      unfold chP at h4
      rw [decide_eq_false (fun q => q e)] at h4
      simp at h4
    have := wf.r1 i p q k x y h1 (by rw [z1]; exact h2) h5 h6
    rw [if_neg hv] at this
    exact this
  · rw [List.getD_eq_getElem?_getD, List.getElem?_take_of_lt hx, ← List.getD_eq_getElem?_getD]
    exact wf.r3 x hx hno
end Go.Proofs.Ytochkebkfoophaa.Tev
