/- argue.Strip and the document's: what is made of a descriptor. -/
import Derived.Test.YtochkebkfoophaaC24a
import Derived.Test.YtochkebkfoophaaCRef2
import Derived.Test.YtochkebkfoophaaQStrip
namespace Go.Proofs.Ytochkebkfoophaa.Tev
open Go Go.RowKit Go.Proofs Go.Proofs.Ytochkebkfoophaa.Q
set_option linter.unusedSectionVars false
set_option maxRecDepth 100000
set_option maxHeartbeats 0
set_option linter.unusedSimpArgs false
set_option linter.unusedVariables false
section
variable (base : Int) (b1 b2 : Bool) (c1 c2 : Option Nat) (E S : List Int)
abbrev Zr : T := .c (.s (some 0) 0 [])
theorem l_Strip8 (hE3 : E.length ≤ 3) (hS : S.length = E.length) (hE : ∀ e ∈ E, 1 ≤ e) (hN : ∀ s ∈ S, nearS s) : ∀ (r t : List Int) (i : Nat) (es ss : List Int), E.drop i = r → S.drop i = t → SInv (es, ss) r →
    lp E0 pr0 18 8 ⟨[(1, .pt 0 0), (2, .pt 1 0), (6, .pt 4 0), (34, SL b1 c1 E.length (ints E)), (35, I E.length), (36, I i)],
        [(0, .box [I base, SL b1 c1 E.length (ints E), SL b2 c2 S.length (ints S)]), (1, .box [I 0, Zr, Zr]), (2, .arr (ints es) 2 1), (3, .arr (ints ss) 3 1), (4, .box [I base, .sl 2 0 es.length 1 none, .sl 3 0 ss.length 1 none])], 5⟩ =
      some (.exit 0, ⟨[(2, .pt 0 0), (6, .pt 3 0)], [(0, .box [I 0, Zr, Zr]), (1, .arr (ints (stripG r t (es, ss)).1) 1 1), (2, .arr (ints (stripG r t (es, ss)).2) 2 1), (3, .box [I base, .sl 1 0 (stripG r t (es, ss)).1.length 1 none, .sl 2 0 (stripG r t (es, ss)).2.length 1 none])], 4⟩) := by
  intro r
  induction r with
  | nil =>
    intro t i es ss h1 h2 h3
    have h5 := drop_nil h1
    have h6 : ¬ (i : Int) < E.length := by omega
    simp only [stripG]
    rw [lp_eq lp18_8]
    simp (config := { maxSteps := 1000000 }) (disch := omega) only [push_cast, ↓reduceIte, Nat.reduceEqDiff, Nat.reduceAdd, Nat.reduceLT, Nat.reduceLeDiff, Nat.reduceBEq, Nat.reduceMul, Nat.reduceSub, Int.reduceToNat, Int.reduceEq, Int.reduceLT, Int.reduceLE, Int.reduceNeg, Int.reduceAdd, Int.reduceSub, Int.reduceMul, Try.f18, kr18, kp18_8, ow18_8, ty3, ty22, ty27, ty34, h6]
  | cons x r ih =>
    intro t i es ss h1 h2 h3
    obtain ⟨g1, g2, g3⟩ := drop_cons h1
    have g8 : (i : Int) < E.length := by omega
    obtain ⟨s, t', rfl⟩ : ∃ s t', t = s :: t' := by
      cases t with
      | nil => have := drop_nil h2; omega
      | cons s t' => exact ⟨s, t', rfl⟩
    obtain ⟨k1, k2, k3⟩ := drop_cons h2
    have k8 : (i : Int) < S.length := by omega
    have hx := hE x (List.mem_of_getElem? g2)
    have hr : ∀ e ∈ r, 1 ≤ e := fun e he => hE e (List.mem_of_mem_drop (by rw [h1]; simp [he]))
    have hs := hN s (List.mem_of_getElem? k2)
    have hst := h3.step hx hr hs
    have hl := h3.len
    have hsm := h3.sm
    simp only [List.length_cons] at hl hsm
    rw [stripG]
    unfold stripS at hst ⊢
    simp only at hst ⊢
    by_cases hx1 : x = 1
    · rw [if_pos hx1] at hst ⊢
      have ih' := ih t' (i + 1) es ss g3 k3 hst
      simp only [cast1, List.length_append, List.length_cons, List.length_nil, Nat.zero_add, Nat.add_zero, Int.natCast_zero, Int.natCast_add, Int.zero_add, ints_1, ints_0, ] at ih'
      rw [lp_eq lp18_8]
      simp (config := { maxSteps := 1000000 }) (disch := omega) only [push_cast, ↓reduceIte, Nat.reduceEqDiff, Nat.reduceAdd, Nat.reduceLT, Nat.reduceLeDiff, Nat.reduceBEq, Nat.reduceMul, Nat.reduceSub, Int.reduceToNat, Int.reduceEq, Int.reduceLT, Int.reduceLE, Int.reduceNeg, Int.reduceAdd, Int.reduceSub, Int.reduceMul, Try.f18, kr18, kp18_8, ow18_8, ty3, ty22, ty27, ty34, g1, g8, getD_of g2, hx1, ih']
    · rw [if_neg hx1] at hst ⊢
      by_cases hne : es = []
      · subst hne
        have hss : ss = [] := List.length_eq_zero_iff.1 (by simpa using hl)
        subst hss
        rw [if_neg (by simp)] at hst ⊢
        have ih' := ih t' (i + 1) _ _ g3 k3 hst
        simp only [cast1, List.length_append, List.length_cons, List.length_nil, Nat.zero_add, Nat.add_zero, Int.natCast_zero, Int.natCast_add, Int.zero_add, ints_1, ints_0, List.nil_append] at ih' ⊢
        rw [lp_eq lp18_8]
        simp (config := { maxSteps := 1000000 }) (disch := omega) only [push_cast, ↓reduceIte, Nat.reduceEqDiff, Nat.reduceAdd, Nat.reduceLT, Nat.reduceLeDiff, Nat.reduceBEq, Nat.reduceMul, Nat.reduceSub, Int.reduceToNat, Int.reduceEq, Int.reduceLT, Int.reduceLE, Int.reduceNeg, Int.reduceAdd, Int.reduceSub, Int.reduceMul, Try.f18, kr18, kp18_8, ow18_8, ty3, ty22, ty27, ty34, g1, g8, k1, k8, getD_of g2, getD_of k2, hx1, ih']
      · obtain ⟨⟨e1, e2⟩, ⟨e3, e4⟩, e5, e6⟩ := h3.bd hx hr hne
        have hpos : 1 ≤ es.length := List.length_pos_iff.2 hne
        have f1 : 0 ≤ (es.length : Int) - 1 := by omega
        have f2 : (es.length : Int) - 1 < es.length := by omega
        have f3 : (es.length : Int) - 1 < ss.length := by omega
        have f4 : ((es.length : Int) - 1).toNat = es.length - 1 := by omega
        have f5 : es.length - 1 < es.length := by omega
        have f6 : es.length - 1 < ss.length := by omega
        by_cases hc : s = es.getD (es.length - 1) 0 * ss.getD (es.length - 1) 0
        · rw [if_pos ⟨hne, hc⟩] at hst ⊢
          have ih' := ih t' (i + 1) _ _ g3 k3 hst
          simp only [List.length_set] at ih'
          simp only [cast1, List.length_append, List.length_cons, List.length_nil, Nat.zero_add, Nat.add_zero, Int.natCast_zero, Int.natCast_add, Int.zero_add, ints_1, ints_0, ] at ih'
          rw [lp_eq lp18_8]
          simp (config := { maxSteps := 1000000 }) (disch := omega) only [push_cast, ↓reduceIte, Nat.reduceEqDiff, Nat.reduceAdd, Nat.reduceLT, Nat.reduceLeDiff, Nat.reduceBEq, Nat.reduceMul, Nat.reduceSub, Int.reduceToNat, Int.reduceEq, Int.reduceLT, Int.reduceLE, Int.reduceNeg, Int.reduceAdd, Int.reduceSub, Int.reduceMul, Try.f18, kr18, kp18_8, ow18_8, ty3, ty22, ty27, ty34, g1, g8, k1, k8, getD_of g2, getD_of k2, hx1, f1, f2, f3, f4, f5, f6, eq_true hc, ih', ne_eq]
        · rw [if_neg (fun h => hc h.2)] at hst ⊢
          have ih' := ih t' (i + 1) _ _ g3 k3 hst
          simp only [cast1, List.length_append, List.length_cons, List.length_nil, Nat.zero_add, Nat.add_zero, Int.natCast_zero, Int.natCast_add, Int.zero_add, ints_1, ints_0, ] at ih'
          rw [lp_eq lp18_8]
          simp (config := { maxSteps := 1000000 }) (disch := omega) only [push_cast, ↓reduceIte, Nat.reduceEqDiff, Nat.reduceAdd, Nat.reduceLT, Nat.reduceLeDiff, Nat.reduceBEq, Nat.reduceMul, Nat.reduceSub, Int.reduceToNat, Int.reduceEq, Int.reduceLT, Int.reduceLE, Int.reduceNeg, Int.reduceAdd, Int.reduceSub, Int.reduceMul, Try.f18, kr18, kp18_8, ow18_8, ty3, ty22, ty27, ty34, g1, g8, k1, k8, getD_of g2, getD_of k2, hx1, f1, f2, f3, f4, f5, f6, eq_false hc, ih', ne_eq]
end
end Go.Proofs.Ytochkebkfoophaa.Tev
