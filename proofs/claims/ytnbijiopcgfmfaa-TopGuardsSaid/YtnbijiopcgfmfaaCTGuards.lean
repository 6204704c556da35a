/- The law TopGuards: plain parts and its loop. -/
import Derived.Test.YtnbijiopcgfmfaaCCut
import Derived.Test.YtnbijiopcgfmfaaC22w
import Derived.Test.YtnbijiopcgfmfaaC17b
import Derived.Test.YtnbijiopcgfmfaaTevRow
namespace Go.Proofs.Ytnbijiopcgfmfaa.Tev
open Go Go.RowKit Go.Proofs Go.Proofs.Ytnbijiopcgfmfaa.Q
set_option linter.unusedSectionVars false
set_option maxRecDepth 100000
set_option maxHeartbeats 0
set_option linter.unusedSimpArgs false
set_option linter.unusedVariables false
/-- Places of a Ref of one stride. -/
def row1 (base s : Int) (m : Nat) : List Int := (List.range m).map fun i : Nat => base + (i : Int) * s
theorem row1_get {base s : Int} {m i : Nat} (h : i < m) : (row1 base s m)[i]? = some (base + (i : Int) * s) := by simp [row1, h]
theorem row1_len (base s : Int) (m : Nat) : (row1 base s m).length = m := by simp [row1]
theorem okR_1 {base s m : Int} (h1 : near base) (h2 : near s) (h3 : 1 ≤ m) (h4 : m ≤ 400) : okR base [m] [s] := by
  refine ⟨⟨⟨⟨by simp, by simp⟩, fun e h => by simp at h; subst h; exact ⟨by omega, by omega⟩⟩, by simp [pr]; omega⟩, rfl, h1, fun x h => by simp at h; subst h; exact h2⟩
theorem places_1 {base s m : Int} (h : okR base [m] [s]) (h3 : 1 ≤ m) : placesR base [m] [s] = row1 base s m.toNat := by
  rw [placesR_eq h, row1, show (pr [m]).toNat = m.toNat by simp [pr]]
  refine List.map_congr_left fun n hn => ?_
  have hn := List.mem_range.1 hn
  simp only [subsQ, dotQ]
  rw [Int.tmod_eq_of_lt (by omega) (by omega)]
  omega
theorem val_last (a b lo st m : Int) : a * (lo + (m - 1) * st) + b = (a * lo + b) + (m - 1) * (a * st) := val_step a b lo st (m - 1)
theorem part_all {a b lo st low high n f t : Int} (hP : PartSpec a b lo st low high n f t) (hn : 1 ≤ n) : firstOf n f t < 0 ↔ f = 0 ∧ t = n := by
  have p1 := hP.f0; have p2 := hP.tn; have p3 := hP.ft
  unfold firstOf
  split
  · omega
  · split <;> omega
theorem part_in {a b lo st n k f t : Int} (hP : PartSpec a b lo st 0 (k - 1) n f t) (hn : 1 ≤ n) : (f = 0 ∧ t = n) ↔ ∀ x ∈ row1 (a * lo + b) (a * st) n.toNat, 0 ≤ x ∧ x < k := by
  have p1 := hP.f0; have p2 := hP.tn; have p3 := hP.ft
  unfold row1
  constructor
  · rintro ⟨h1, h2⟩ x hx
    obtain ⟨i, hi, rfl⟩ := List.mem_map.1 hx
    have hi := List.mem_range.1 hi
    have := (hP.iff i (by omega) (by omega)).2 ⟨by omega, by omega⟩
    rw [val_step] at this
    omega
  · intro h
    have k1 := h _ (List.mem_map.2 ⟨0, List.mem_range.2 (by omega), rfl⟩)
    have k2 := h _ (List.mem_map.2 ⟨n.toNat - 1, List.mem_range.2 (by omega), rfl⟩)
    have q1 := (hP.iff 0 (by omega) (by omega)).1 (by rw [val_step]; simp only [Int.natCast_zero] at k1; omega)
    have q2 := (hP.iff (n - 1) (by omega) (by omega)).1 (by rw [val_step]; rw [show ((n.toNat - 1 : Nat) : Int) = n - 1 by omega] at k2; omega)
    omega
theorem part_cut {a b lo st n k f t : Int} (hP : PartSpec a b lo st 0 (k - 1) n f t) (hn : 1 ≤ n) :
    (0 ≤ mn (a * lo + b) ((a * lo + b) + (n - 1) * (a * st)) ∧ mx (a * lo + b) ((a * lo + b) + (n - 1) * (a * st)) ≤ k - 1) ↔ f = 0 ∧ t = n := by
  have p1 := hP.f0; have p2 := hP.tn; have p3 := hP.ft
  have q1 := hP.iff 0 (by omega) (by omega)
  have q2 := hP.iff (n - 1) (by omega) (by omega)
  rw [val_step, Int.zero_mul, Int.add_zero] at q1
  rw [val_step] at q2
  generalize (n - 1) * (a * st) = w at *
  generalize a * lo + b = v at *
  unfold mn mx
  split <;> split <;> omega
/-- The three counts. -/
theorem cnt_mem {lo hi st p q : Int} (hs : st ≠ 0) : cnt (mem lo st p q).1 (mem lo st p q).2.1 (mem lo st p q).2.2 = if q ≤ p then 0 else q - p := by
  unfold mem
  split
  · decide
  · exact cnt_piece (hi := hi) hs (by omega)
theorem okT_mem {lo hi st p q : Int} (hs : st ≠ 0) (n1 : near lo) (n2 : near hi) (n3 : near st) (h0 : 0 ≤ p) (hq : q ≤ cnt lo hi st) : okT (mem lo st p q).1 (mem lo st p q).2.1 (mem lo st p q).2.2 := by
  unfold mem
  split
  · decide
  · exact okT_near hs (near_turn hs n1 n2 h0 (by omega)) (near_turn hs n1 n2 (by omega) (by omega)) n3
theorem tg_loop (n m f t F x y : Int) (p : List Int) (cp : Option Nat) (hpl : (p.length : Int) = m) (hm : m ≤ 400) (hn : n ≤ 400) (hx : x = f) (hy : x + y = t) (hf : 0 ≤ f) (ht : t ≤ m)
    (hin : ∀ (i : Nat) (v : Int), p[i]? = some v → ((0 ≤ v ∧ v ≤ n - 1) ↔ (f ≤ i ∧ (i : Int) < t))) (hF : F = firstOf m f t) (hft : f < t ∨ (f = 0 ∧ t = 0)) : ∀ (r : List Int) (i : Nat), p.drop i = r →
    lp E0 pr0 3 30 ⟨[(3, I n), (9, I m), (15, .sl 0 0 p.length 1 cp), (22, I F), (26, I x), (27, I y), (29, I i)], [(0, .arr (ints p) 0 1)], 1⟩ = some (.exit 0, ⟨[], [], 0⟩) := by
  have w0 : IntKind.i64.wrap (x + y) = x + y := w64 (by omega) (by omega)
  have hFb : F = -1 ∨ (0 ≤ F ∧ F ≤ 400) := by rw [hF]; unfold firstOf; split <;> (try split) <;> omega
  intro r
  induction r with
  | nil =>
    intro i h1
    have h5 := drop_nil h1
    have h6 : ¬ (i : Int) < m := by omega
    rw [lp_eq lp3_30]
    simp (config := { maxSteps := 1000000 }) (disch := omega) only [push_cast, ↓reduceIte, Nat.reduceEqDiff, Nat.reduceAdd, Nat.reduceLT, Nat.reduceLeDiff, Nat.reduceBEq, Nat.reduceMul, Nat.reduceSub, Int.reduceToNat, Int.reduceEq, Int.reduceLT, Int.reduceLE, Int.reduceNeg, Int.reduceAdd, Int.reduceSub, Int.reduceMul, Try.f3, kr3, kp3_30, ow3_30, ty3, ty4, ty23, ty28, ty30, ty37, ty42, ty43, tb4, h6]
  | cons v r ih =>
    intro i h1
    obtain ⟨g1, g2, g3⟩ := drop_cons h1
    have g8 : (i : Int) < m := by omega
    have g9 : (i : Int) < p.length := by omega
    have ih' := ih (i + 1) g3
    simp only [cast1, List.length_append, List.length_cons, List.length_nil, Nat.zero_add, Nat.add_zero, Int.natCast_zero, Int.natCast_add, Int.zero_add, ints_1, ints_0, ] at ih'
    have hiv := hin i v g2
    have q1 : (0 ≤ v ∧ v < n) → ¬ (i : Int) = F := by
      intro q; have := hiv.1 (by omega); rw [hF]; unfold firstOf; split <;> (try split) <;> omega
    have q2 : ¬ (0 ≤ v ∧ v < n) → ¬ F < 0 ∧ ¬ (i : Int) < F := by
      intro q; have : ¬ (f ≤ i ∧ (i : Int) < t) := fun k => q (by have := hiv.2 k; omega)
      rw [hF]; unfold firstOf; split <;> (try split) <;> omega
    rw [lp_eq lp3_30]
    by_cases k1 : 0 ≤ v ∧ v < n
    · have k2 := hiv.1 (by omega)
      have k3 := q1 k1
      have k4 : ¬ v < 0 := by omega
      have k5 : x ≤ i := by omega
      have k6 : (i : Int) < x + y := by omega
      by_cases k7 : (i : Int) < F
      · simp (config := { maxSteps := 1000000 }) (disch := omega) only [push_cast, ↓reduceIte, Nat.reduceEqDiff, Nat.reduceAdd, Nat.reduceLT, Nat.reduceLeDiff, Nat.reduceBEq, Nat.reduceMul, Nat.reduceSub, Int.reduceToNat, Int.reduceEq, Int.reduceLT, Int.reduceLE, Int.reduceNeg, Int.reduceAdd, Int.reduceSub, Int.reduceMul, Try.f3, kr3, kp3_30, ow3_30, ty3, ty4, ty23, ty28, ty30, ty37, ty42, ty43, tb4, g1, g8, g9, getD_of g2, w0, k1.1, k1.2, k3, k4, k5, k6, k7, ih', ne_eq]
      · simp (config := { maxSteps := 1000000 }) (disch := omega) only [push_cast, ↓reduceIte, Nat.reduceEqDiff, Nat.reduceAdd, Nat.reduceLT, Nat.reduceLeDiff, Nat.reduceBEq, Nat.reduceMul, Nat.reduceSub, Int.reduceToNat, Int.reduceEq, Int.reduceLT, Int.reduceLE, Int.reduceNeg, Int.reduceAdd, Int.reduceSub, Int.reduceMul, Try.f3, kr3, kp3_30, ow3_30, ty3, ty4, ty23, ty28, ty30, ty37, ty42, ty43, tb4, g1, g8, g9, getD_of g2, w0, k1.1, k1.2, k3, k4, k5, k6, k7, ih', ne_eq]
    · obtain ⟨k3, k4⟩ := q2 k1
      have k2 : ¬ (f ≤ i ∧ (i : Int) < t) := fun k => k1 (by have := hiv.2 k; omega)
      by_cases k7 : (i : Int) = F
      · subst k7
        by_cases k5 : x ≤ i
        · have k6 : ¬ (i : Int) < x + y := by omega
          by_cases k8 : 0 ≤ v
          · have k9 : ¬ v < n := by omega
            simp (config := { maxSteps := 1000000 }) (disch := omega) only [push_cast, ↓reduceIte, Nat.reduceEqDiff, Nat.reduceAdd, Nat.reduceLT, Nat.reduceLeDiff, Nat.reduceBEq, Nat.reduceMul, Nat.reduceSub, Int.reduceToNat, Int.reduceEq, Int.reduceLT, Int.reduceLE, Int.reduceNeg, Int.reduceAdd, Int.reduceSub, Int.reduceMul, Try.f3, kr3, kp3_30, ow3_30, ty3, ty4, ty23, ty28, ty30, ty37, ty42, ty43, tb4, g1, g8, g9, getD_of g2, w0, k3, k4, k5, k6, Int.lt_irrefl, k8, k9, ih', ne_eq]
          · simp (config := { maxSteps := 1000000 }) (disch := omega) only [push_cast, ↓reduceIte, Nat.reduceEqDiff, Nat.reduceAdd, Nat.reduceLT, Nat.reduceLeDiff, Nat.reduceBEq, Nat.reduceMul, Nat.reduceSub, Int.reduceToNat, Int.reduceEq, Int.reduceLT, Int.reduceLE, Int.reduceNeg, Int.reduceAdd, Int.reduceSub, Int.reduceMul, Try.f3, kr3, kp3_30, ow3_30, ty3, ty4, ty23, ty28, ty30, ty37, ty42, ty43, tb4, g1, g8, g9, getD_of g2, w0, k3, k4, k5, k6, Int.lt_irrefl, k8, ih', ne_eq]
        · by_cases k8 : 0 ≤ v
          · have k9 : ¬ v < n := by omega
            simp (config := { maxSteps := 1000000 }) (disch := omega) only [push_cast, ↓reduceIte, Nat.reduceEqDiff, Nat.reduceAdd, Nat.reduceLT, Nat.reduceLeDiff, Nat.reduceBEq, Nat.reduceMul, Nat.reduceSub, Int.reduceToNat, Int.reduceEq, Int.reduceLT, Int.reduceLE, Int.reduceNeg, Int.reduceAdd, Int.reduceSub, Int.reduceMul, Try.f3, kr3, kp3_30, ow3_30, ty3, ty4, ty23, ty28, ty30, ty37, ty42, ty43, tb4, g1, g8, g9, getD_of g2, w0, k3, k4, k5, Int.lt_irrefl, k8, k9, ih', ne_eq]
          · simp (config := { maxSteps := 1000000 }) (disch := omega) only [push_cast, ↓reduceIte, Nat.reduceEqDiff, Nat.reduceAdd, Nat.reduceLT, Nat.reduceLeDiff, Nat.reduceBEq, Nat.reduceMul, Nat.reduceSub, Int.reduceToNat, Int.reduceEq, Int.reduceLT, Int.reduceLE, Int.reduceNeg, Int.reduceAdd, Int.reduceSub, Int.reduceMul, Try.f3, kr3, kp3_30, ow3_30, ty3, ty4, ty23, ty28, ty30, ty37, ty42, ty43, tb4, g1, g8, g9, getD_of g2, w0, k3, k4, k5, Int.lt_irrefl, k8, ih', ne_eq]
      · by_cases k5 : x ≤ i
        · have k6 : ¬ (i : Int) < x + y := by omega
          by_cases k8 : 0 ≤ v
          · have k9 : ¬ v < n := by omega
            simp (config := { maxSteps := 1000000 }) (disch := omega) only [push_cast, ↓reduceIte, Nat.reduceEqDiff, Nat.reduceAdd, Nat.reduceLT, Nat.reduceLeDiff, Nat.reduceBEq, Nat.reduceMul, Nat.reduceSub, Int.reduceToNat, Int.reduceEq, Int.reduceLT, Int.reduceLE, Int.reduceNeg, Int.reduceAdd, Int.reduceSub, Int.reduceMul, Try.f3, kr3, kp3_30, ow3_30, ty3, ty4, ty23, ty28, ty30, ty37, ty42, ty43, tb4, g1, g8, g9, getD_of g2, w0, k3, k4, k5, k6, k7, k8, k9, ih', ne_eq]
          · simp (config := { maxSteps := 1000000 }) (disch := omega) only [push_cast, ↓reduceIte, Nat.reduceEqDiff, Nat.reduceAdd, Nat.reduceLT, Nat.reduceLeDiff, Nat.reduceBEq, Nat.reduceMul, Nat.reduceSub, Int.reduceToNat, Int.reduceEq, Int.reduceLT, Int.reduceLE, Int.reduceNeg, Int.reduceAdd, Int.reduceSub, Int.reduceMul, Try.f3, kr3, kp3_30, ow3_30, ty3, ty4, ty23, ty28, ty30, ty37, ty42, ty43, tb4, g1, g8, g9, getD_of g2, w0, k3, k4, k5, k6, k7, k8, ih', ne_eq]
        · by_cases k8 : 0 ≤ v
          · have k9 : ¬ v < n := by omega
            simp (config := { maxSteps := 1000000 }) (disch := omega) only [push_cast, ↓reduceIte, Nat.reduceEqDiff, Nat.reduceAdd, Nat.reduceLT, Nat.reduceLeDiff, Nat.reduceBEq, Nat.reduceMul, Nat.reduceSub, Int.reduceToNat, Int.reduceEq, Int.reduceLT, Int.reduceLE, Int.reduceNeg, Int.reduceAdd, Int.reduceSub, Int.reduceMul, Try.f3, kr3, kp3_30, ow3_30, ty3, ty4, ty23, ty28, ty30, ty37, ty42, ty43, tb4, g1, g8, g9, getD_of g2, w0, k3, k4, k5, k7, k8, k9, ih', ne_eq]
          · simp (config := { maxSteps := 1000000 }) (disch := omega) only [push_cast, ↓reduceIte, Nat.reduceEqDiff, Nat.reduceAdd, Nat.reduceLT, Nat.reduceLeDiff, Nat.reduceBEq, Nat.reduceMul, Nat.reduceSub, Int.reduceToNat, Int.reduceEq, Int.reduceLT, Int.reduceLE, Int.reduceNeg, Int.reduceAdd, Int.reduceSub, Int.reduceMul, Try.f3, kr3, kp3_30, ow3_30, ty3, ty4, ty23, ty28, ty30, ty37, ty42, ty43, tb4, g1, g8, g9, getD_of g2, w0, k3, k4, k5, k7, k8, ih', ne_eq]
end Go.Proofs.Ytnbijiopcgfmfaa.Tev
