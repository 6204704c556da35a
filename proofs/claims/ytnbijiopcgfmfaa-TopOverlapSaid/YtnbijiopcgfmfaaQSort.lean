/- Sorted lists of numbers: what is left when neighbours that are alike are taken out. -/
import Derived.Test.YtnbijiopcgfmfaaQAr
import Derived.Lib.SlicesCompact
set_option linter.unusedVariables false
set_option linter.unusedSimpArgs false
set_option linter.unusedSectionVars false
namespace Go.Proofs.Ytnbijiopcgfmfaa.Q
open Go
def cptA : Int → List Int → List Int
  | _, [] => []
  | p, y :: r => if y = p then cptA y r else y :: cptA y r
def cpt : List Int → List Int
  | [] => []
  | x :: r => x :: cptA x r
theorem cptA_snoc : ∀ (l : List Int) (p z : Int), cptA p (l ++ [z]) = cptA p l ++ (if z = (p :: l).getLast (by simp) then [] else [z])
  | [], p, z => by
    show (if z = p then [] else [z]) = [] ++ (if z = p then [] else [z])
    rfl
  | y :: l, p, z => by
    rw [List.cons_append, cptA, cptA, cptA_snoc l y z]
    have e : (p :: y :: l).getLast (by simp) = (y :: l).getLast (by simp) := List.getLast_cons (by simp)
    rw [e]
    split <;> simp
theorem cpt_snoc (l : List Int) (z : Int) (h : l ≠ []) : cpt (l ++ [z]) = cpt l ++ (if z = l.getLast h then [] else [z]) := by
  cases l with
  | nil => exact absurd rfl h
  | cons x r => show x :: cptA x (r ++ [z]) = x :: cptA x r ++ _; rw [cptA_snoc]; rfl
theorem compact_upTo (zs : List Int) : ∀ m, m ≤ zs.length → Lib.compactUpTo zs.toArray m = cpt (zs.take m)
  | 0, _ => by simp [Lib.compactUpTo, cpt]
  | m + 1, h => by
    have hm : m < zs.length := by omega
    rw [Lib.compactUpTo_succ, compact_upTo zs m (by omega), List.take_succ_eq_append_getElem hm]
    have e1 : zs.toArray[m]! = zs[m] := by simp [hm]
    by_cases h0 : m = 0
    · subst h0
      simp [Lib.keeps, cpt, cptA, hm]
    · have hne : zs.take m ≠ [] := by
        intro q
        have := congrArg List.length q
        rw [List.length_take, List.length_nil] at this; omega
      rw [cpt_snoc _ _ hne]
      have e2 : (zs.take m).getLast hne = zs.toArray[m - 1]! := by
        rw [List.getLast_eq_getElem]
        simp only [List.getElem_take, List.length_take]
        have : min m zs.length - 1 = m - 1 := by omega
        simp only [this]
        simp [show m - 1 < zs.length by omega]
      rw [e2, e1]
      by_cases hk : zs[m] = zs.toArray[m - 1]!
      · rw [if_pos hk, Lib.keeps_neg (by omega) (by rw [e1]; exact hk)]; rfl
      · rw [if_neg hk, Lib.keeps_pos (by rw [e1]; exact hk)]; rfl
theorem compact_cpt (zs : List Int) : Lib.compact zs = cpt zs := by
  unfold Lib.compact
  rw [compact_upTo zs zs.length (Nat.le_refl _), List.take_length]
theorem cptA_le : ∀ (l : List Int) (p : Int), (cptA p l).length ≤ l.length
  | [], _ => Nat.le_refl _
  | y :: l, p => by
    rw [cptA]
    have := cptA_le l y
    split <;> simp only [List.length_cons] <;> omega
theorem cpt_le : ∀ l : List Int, (cpt l).length ≤ l.length
  | [] => Nat.le_refl _
  | x :: l => by have := cptA_le l x; simp only [cpt, List.length_cons]; omega
theorem cptA_mem : ∀ (l : List Int) (p z : Int), (z ∈ p :: cptA p l) ↔ z ∈ p :: l
  | [], p, z => by simp [cptA]
  | y :: l, p, z => by
    have ih := cptA_mem l y z
    rw [cptA]
    split
    · rename_i h
      subst h
      simp only [List.mem_cons] at ih ⊢
      rw [ih]
      constructor
      · rintro (h | h) <;> simp [h]
      · rintro (h | h | h) <;> simp [h]
    · simp only [List.mem_cons] at ih ⊢; rw [ih]
theorem cpt_mem (l : List Int) (z : Int) : z ∈ cpt l ↔ z ∈ l := by
  cases l with
  | nil => rfl
  | cons x r => exact cptA_mem r x z
theorem cptA_sorted : ∀ (l : List Int) (p : Int), (p :: l).Pairwise (· ≤ ·) → (p :: cptA p l).Pairwise (· < ·)
  | [], p, _ => by simp [cptA]
  | y :: l, p, h => by
    rw [List.pairwise_cons] at h
    have ih := cptA_sorted l y h.2
    have hy := h.1 y (by simp)
    rw [cptA]
    split
    · rename_i e; subst e; exact ih
    · rename_i e
      rw [List.pairwise_cons]
      refine ⟨fun z hz => ?_, ih⟩
      have h1 : z ∈ y :: l := (cptA_mem l y z).1 hz
      have h2 := (List.pairwise_cons.1 h.2).1
      rcases List.mem_cons.1 h1 with rfl | h1
      · omega
      · have := h2 z h1; omega
theorem cpt_sorted {l : List Int} (h : l.Pairwise (· ≤ ·)) : (cpt l).Pairwise (· < ·) := by
  cases l with
  | nil => exact List.Pairwise.nil
  | cons x r => exact cptA_sorted r x h
theorem cptA_dup : ∀ (l : List Int) (p : Int), (p :: l).Pairwise (· ≤ ·) → ((cptA p l).length = l.length ↔ (p :: l).Nodup)
  | [], p, _ => by simp [cptA]
  | y :: l, p, h => by
    rw [List.pairwise_cons] at h
    have ih := cptA_dup l y h.2
    have hy := h.1 y (by simp)
    have hle := cptA_le l y
    rw [cptA]
    split
    · rename_i e
      subst e
      simp only [List.length_cons]
      constructor
      · intro q; omega
      · intro q; simp at q
    · rename_i e
      simp only [List.length_cons, Nat.add_right_cancel_iff]
      rw [ih, List.nodup_cons (a := p)]
      constructor
      · intro q
        refine ⟨fun hm => ?_, q⟩
        have h2 := (List.pairwise_cons.1 h.2).1
        rcases List.mem_cons.1 hm with rfl | hm
        · exact e rfl
        · have := h2 p hm; omega
      · exact fun q => q.2
theorem cpt_dup {l : List Int} (h : l.Pairwise (· ≤ ·)) : (cpt l).length < l.length ↔ ¬ l.Nodup := by
  cases l with
  | nil => simp [cpt]
  | cons x r =>
    have h1 := cptA_dup r x h
    have h2 := cptA_le r x
    simp only [cpt, List.length_cons]
    constructor
    · intro q hn; have := h1.2 hn; omega
    · intro q
      rcases Nat.lt_or_ge (cptA x r).length r.length with h3 | h3
      · omega
      · exact absurd (h1.1 (by omega)) q
theorem strict_ext : ∀ {l m : List Int}, l.Pairwise (· < ·) → m.Pairwise (· < ·) → (∀ z, z ∈ l ↔ z ∈ m) → l = m
  | [], [], _, _, _ => rfl
  | [], y :: m, _, _, h => by have := (h y).2 (by simp); simp at this
  | x :: l, [], _, _, h => by have := (h x).1 (by simp); simp at this
  | x :: l, y :: m, h1, h2, h => by
    rw [List.pairwise_cons] at h1 h2
    have a := (h x).1 (by simp)
    have b := (h y).2 (by simp)
    have e : x = y := by
      rcases List.mem_cons.1 a with rfl | a
      · rfl
      · rcases List.mem_cons.1 b with rfl | b
        · rfl
        · have := h2.1 x a; have := h1.1 y b; omega
    subst e
    congr 1
    refine strict_ext h1.2 h2.2 fun z => ?_
    have := h z
    simp only [List.mem_cons] at this
    constructor
    · intro hz
      rcases this.1 (.inr hz) with rfl | q
      · have := h1.1 z hz; omega
      · exact q
    · intro hz
      rcases this.2 (.inr hz) with rfl | q
      · have := h2.1 z hz; omega
      · exact q
def sortQ (l : List Int) : List Int := l.mergeSort fun x y => decide (x ≤ y)
theorem sortQ_len (l : List Int) : (sortQ l).length = l.length := List.length_mergeSort _
theorem sortQ_mem (l : List Int) (z : Int) : z ∈ sortQ l ↔ z ∈ l := List.mem_mergeSort
theorem sortQ_sorted (l : List Int) : (sortQ l).Pairwise (· ≤ ·) := by
  have := List.pairwise_mergeSort (le := fun x y : Int => decide (x ≤ y)) (fun a b c h1 h2 => by simp at *; omega) (fun a b => by simp; omega) l
  exact this.imp fun h => by simpa using h
theorem sortQ_nodup (l : List Int) : (sortQ l).Nodup ↔ l.Nodup := (List.mergeSort_perm l _).nodup_iff
/-- Sorted, alike ones taken out: is something there twice. -/
theorem twice_iff (l : List Int) : (cpt (sortQ l)).length < l.length ↔ ¬ l.Nodup := by
  rw [← sortQ_nodup l, ← cpt_dup (sortQ_sorted l), sortQ_len]
def setQ (l : List Int) : List Int := cpt (sortQ l)
theorem setQ_mem (l : List Int) (z : Int) : z ∈ setQ l ↔ z ∈ l := (cpt_mem _ z).trans (sortQ_mem l z)
theorem setQ_strict (l : List Int) : (setQ l).Pairwise (· < ·) := cpt_sorted (sortQ_sorted l)
end Go.Proofs.Ytnbijiopcgfmfaa.Q
