-- Printed by wip/qprint.py of this repository, over the kit's print, out of the translation. Not trusted: Lean checks it.
import Derived.Test.YticjlkommabcjaaPSx0
import Derived.Test.YticjlkommabcjaaPSx1
import Derived.Test.YticjlkommabcjaaPSx11
import Derived.Test.YticjlkommabcjaaPSx13
namespace Go.Proofs.Yticjlkommabcjaa.PS
open Go.RowKit Go.Proofs.YticjlkommabcjaaW.PrintWords Go.Proofs.YticjlkommabcjaaW.PrintLast Go.Proofs.YticjlkommabcjaaW.PrintMore
attribute [local go_sem] max2_int min2_int max_two min_two max_three min_three max_four min_four   -- for this text's walks alone
set_option linter.unusedVariables false
set_option linter.unusedSimpArgs false
set_option maxRecDepth 100000

/-! ### quadratref06_Cut: function 16 -/
mutual
def quadratref06_Cut.j0 : Nat → List (S58) → Bool → Int → List Int → List Int → Option (Int × List Int × List Int × Int)
  | 0, _, _, _, _, _ => none
  | k + 1, x1, x24, x244000, x244001, x244002 => if x24 = true then (some (0, ([] : List Int), ([] : List Int), 2)) else (quadratref06_Cut.l0 k x1 0 x244000 x244001 x244002)
def quadratref06_Cut.l0 : Nat → List (S58) → Int → Int → List Int → List Int → Option (Int × List Int × List Int × Int)
  | 0, _, _, _, _, _ => none
  | k + 1, x1, x6, x244000, x244001, x244002 => if x6 < (x1.length : Int) then (if 0 ≤ x6 then (if ((rd_T58 x1 x6).f0 = true) then (quadratref06_Cut.l0 k x1 (wrap64 (x6 + 1)) x244000 x244001 x244002) else ((quadratref06_IsTriple.f ((rd_T58 x1 x6).f2.f0) ((rd_T58 x1 x6).f2.f1) ((rd_T58 x1 x6).f2.f2)).bind fun t248 => (if t248 = true then (quadratref06_Cut.l0 k x1 (wrap64 (x6 + 1)) x244000 x244001 x244002) else (some (0, ([] : List Int), ([] : List Int), 2))))) else (none)) else (quadratref06_Cut.l1 k x1 0 x244000 x244001 x244002 x244000 ([] : List Int) ([] : List Int))
def quadratref06_Cut.l1 : Nat → List (S58) → Int → Int → List Int → List Int → Int → List Int → List Int → Option (Int × List Int × List Int × Int)
  | 0, _, _, _, _, _, _, _, _ => none
  | k + 1, x1, x8, x244000, x244001, x244002, x250000, x250001, x250002 => if x8 < (x1.length : Int) then (if 0 ≤ x8 then (if ((rd_T58 x1 x8).f0 = true) then (quadratref06_Cut.j3 k x1 x8 ((rd_T58 x1 x8).f1) 1 1 x244000 x244001 x244002 x250000 x250001 x250002) else ((quadratref06_count.f ((rd_T58 x1 x8).f2.f0) ((rd_T58 x1 x8).f2.f1) ((rd_T58 x1 x8).f2.f2)).bind fun t254 => (quadratref06_Cut.j3 k x1 x8 ((rd_T58 x1 x8).f2.f0) t254 ((rd_T58 x1 x8).f2.f2) x244000 x244001 x244002 x250000 x250001 x250002))) else (none)) else (some (x250000, x250001, x250002, 0))
def quadratref06_Cut.j3 : Nat → List (S58) → Int → Int → Int → Int → Int → List Int → List Int → Int → List Int → List Int → Option (Int × List Int × List Int × Int)
  | 0, _, _, _, _, _, _, _, _, _, _, _ => none
  | k + 1, x1, x8, x9, x10, x11, x244000, x244001, x244002, x250000, x250001, x250002 => if x10 > 0 then (if x9 < 0 then (quadratref06_Cut.j4 k x1 x8 x9 x10 x11 true x244000 x244001 x244002 x250000 x250001 x250002) else (if 0 ≤ x8 then (if x8 < (x244001.length : Int) then (if x9 ≥ (rd x244001 x8) then (quadratref06_Cut.j4 k x1 x8 x9 x10 x11 true x244000 x244001 x244002 x250000 x250001 x250002) else (if (wrap64 (x9 + (wrap64 ((wrap64 (x10 - 1)) * x11)))) < 0 then (quadratref06_Cut.j4 k x1 x8 x9 x10 x11 true x244000 x244001 x244002 x250000 x250001 x250002) else (quadratref06_Cut.j4 k x1 x8 x9 x10 x11 (decide ((wrap64 (x9 + (wrap64 ((wrap64 (x10 - 1)) * x11)))) ≥ (rd x244001 x8))) x244000 x244001 x244002 x250000 x250001 x250002))) else (none)) else (none))) else (quadratref06_Cut.j4 k x1 x8 x9 x10 x11 false x244000 x244001 x244002 x250000 x250001 x250002)
def quadratref06_Cut.j4 : Nat → List (S58) → Int → Int → Int → Int → Bool → Int → List Int → List Int → Int → List Int → List Int → Option (Int × List Int × List Int × Int)
  | 0, _, _, _, _, _, _, _, _, _, _, _, _ => none
  | k + 1, x1, x8, x9, x10, x11, x112, x244000, x244001, x244002, x250000, x250001, x250002 => if x112 = true then (some (0, ([] : List Int), ([] : List Int), 92)) else (if x10 > 0 then ((quadratref06_size.f k x244001).bind fun t257 => (quadratref06_Cut.j5 k x1 x8 x9 x10 x11 (decide (t257 > 0)) x244000 x244001 x244002 x250000 x250001 x250002)) else (quadratref06_Cut.j5 k x1 x8 x9 x10 x11 false x244000 x244001 x244002 x250000 x250001 x250002))
def quadratref06_Cut.j5 : Nat → List (S58) → Int → Int → Int → Int → Bool → Int → List Int → List Int → Int → List Int → List Int → Option (Int × List Int × List Int × Int)
  | 0, _, _, _, _, _, _, _, _, _, _, _, _ => none
  | k + 1, x1, x8, x9, x10, x11, x121, x244000, x244001, x244002, x250000, x250001, x250002 => if x121 = true then (if 0 ≤ x8 then (if x8 < (x244002.length : Int) then (quadratref06_Cut.j6 k x1 x8 x10 x11 x244000 x244001 x244002 (wrap64 (x250000 + (wrap64 (x9 * (rd x244002 x8))))) x250001 x250002) else (none)) else (none)) else (quadratref06_Cut.j6 k x1 x8 x10 x11 x244000 x244001 x244002 x250000 x250001 x250002)
def quadratref06_Cut.j6 : Nat → List (S58) → Int → Int → Int → Int → List Int → List Int → Int → List Int → List Int → Option (Int × List Int × List Int × Int)
  | 0, _, _, _, _, _, _, _, _, _, _ => none
  | k + 1, x1, x8, x10, x11, x244000, x244001, x244002, x250000, x250001, x250002 => if 0 ≤ x8 then (if x8 < (x1.length : Int) then (if (rd_T58 x1 x8).f0 = true then (quadratref06_Cut.l1 k x1 (wrap64 (x8 + 1)) x244000 x244001 x244002 x250000 x250001 x250002) else (if x10 < 2 then ((some (([x10] : List Int) : List Int)).bind fun y260 => (if x250001.length + y260.length < 17592186044416 then (if x8 < (x244002.length : Int) then ((some (([wrap64 (1 * (rd x244002 x8))] : List Int) : List Int)).bind fun y267 => (if x250002.length + y267.length < 17592186044416 then (quadratref06_Cut.l1 k x1 (wrap64 (x8 + 1)) x244000 x244001 x244002 x250000 (x250001 ++ y260) (x250002 ++ y267)) else (none))) else (none)) else (none))) else ((some (([x10] : List Int) : List Int)).bind fun y273 => (if x250001.length + y273.length < 17592186044416 then (if x8 < (x244002.length : Int) then ((some (([wrap64 (x11 * (rd x244002 x8))] : List Int) : List Int)).bind fun y280 => (if x250002.length + y280.length < 17592186044416 then (quadratref06_Cut.l1 k x1 (wrap64 (x8 + 1)) x244000 x244001 x244002 x250000 (x250001 ++ y273) (x250002 ++ y280)) else (none))) else (none)) else (none))))) else (none)) else (none)
end
def quadratref06_Cut.f (k : Nat) (a0_0 : Int) (l0_1 : List Int) (l0_2 : List Int) (l1 : List (S58)) : Option (Int × List Int × List Int × Int) := (quadratref06_Valid.f k a0_0 l0_1 l0_2).bind fun t245 => (if t245 = true then (quadratref06_Cut.j0 k l1 ((l1.length : Int) != (l0_1.length : Int)) a0_0 l0_1 l0_2) else (quadratref06_Cut.j0 k l1 true a0_0 l0_1 l0_2))
theorem quadratref06_Cut.mono_l : ∀ k, (∀ y0 y1 y2 y3 y4, LeO (quadratref06_Cut.j0 k y0 y1 y2 y3 y4) (quadratref06_Cut.j0 (k + 1) y0 y1 y2 y3 y4)) ∧ (∀ y0 y1 y2 y3 y4, LeO (quadratref06_Cut.l0 k y0 y1 y2 y3 y4) (quadratref06_Cut.l0 (k + 1) y0 y1 y2 y3 y4)) ∧ (∀ y0 y1 y2 y3 y4 y5 y6 y7, LeO (quadratref06_Cut.l1 k y0 y1 y2 y3 y4 y5 y6 y7) (quadratref06_Cut.l1 (k + 1) y0 y1 y2 y3 y4 y5 y6 y7)) ∧ (∀ y0 y1 y2 y3 y4 y5 y6 y7 y8 y9 y10, LeO (quadratref06_Cut.j3 k y0 y1 y2 y3 y4 y5 y6 y7 y8 y9 y10) (quadratref06_Cut.j3 (k + 1) y0 y1 y2 y3 y4 y5 y6 y7 y8 y9 y10)) ∧ (∀ y0 y1 y2 y3 y4 y5 y6 y7 y8 y9 y10 y11, LeO (quadratref06_Cut.j4 k y0 y1 y2 y3 y4 y5 y6 y7 y8 y9 y10 y11) (quadratref06_Cut.j4 (k + 1) y0 y1 y2 y3 y4 y5 y6 y7 y8 y9 y10 y11)) ∧ (∀ y0 y1 y2 y3 y4 y5 y6 y7 y8 y9 y10 y11, LeO (quadratref06_Cut.j5 k y0 y1 y2 y3 y4 y5 y6 y7 y8 y9 y10 y11) (quadratref06_Cut.j5 (k + 1) y0 y1 y2 y3 y4 y5 y6 y7 y8 y9 y10 y11)) ∧ (∀ y0 y1 y2 y3 y4 y5 y6 y7 y8 y9, LeO (quadratref06_Cut.j6 k y0 y1 y2 y3 y4 y5 y6 y7 y8 y9) (quadratref06_Cut.j6 (k + 1) y0 y1 y2 y3 y4 y5 y6 y7 y8 y9))
  | 0 => ⟨fun _ _ _ _ _ r h => by simp [quadratref06_Cut.j0] at h, fun _ _ _ _ _ r h => by simp [quadratref06_Cut.l0] at h, fun _ _ _ _ _ _ _ _ r h => by simp [quadratref06_Cut.l1] at h, fun _ _ _ _ _ _ _ _ _ _ _ r h => by simp [quadratref06_Cut.j3] at h, fun _ _ _ _ _ _ _ _ _ _ _ _ r h => by simp [quadratref06_Cut.j4] at h, fun _ _ _ _ _ _ _ _ _ _ _ _ r h => by simp [quadratref06_Cut.j5] at h, fun _ _ _ _ _ _ _ _ _ _ r h => by simp [quadratref06_Cut.j6] at h⟩
  | k + 1 => by
    obtain ⟨ih0, ih1, ih2, ih3, ih4, ih5, ih6⟩ := quadratref06_Cut.mono_l k
    refine ⟨?_, ?_, ?_, ?_, ?_, ?_, ?_⟩
    · intro y0 y1 y2 y3 y4
      unfold quadratref06_Cut.j0
      repeat' first
      | (with_reducible exact ih0 _ _ _ _ _)
      | (with_reducible exact ih1 _ _ _ _ _)
      | (with_reducible exact ih2 _ _ _ _ _ _ _ _)
      | (with_reducible exact ih3 _ _ _ _ _ _ _ _ _ _ _)
      | (with_reducible exact ih4 _ _ _ _ _ _ _ _ _ _ _ _)
      | (with_reducible exact ih5 _ _ _ _ _ _ _ _ _ _ _ _)
      | (with_reducible exact ih6 _ _ _ _ _ _ _ _ _ _)
      | (with_reducible exact quadratref06_Valid.mono _ _ _ _)
      | (with_reducible exact quadratref06_size.mono _ _)
      | (with_reducible exact LeO.refl _)
      | (with_reducible exact LeO.none _)
      | (with_reducible refine LeO.ite ?_ ?_)
      | (with_reducible refine LeO.bind ?_ (fun _ => ?_))
      | exact ih0 _ _ _ _ _
      | exact ih1 _ _ _ _ _
      | exact ih2 _ _ _ _ _ _ _ _
      | exact ih3 _ _ _ _ _ _ _ _ _ _ _
      | exact ih4 _ _ _ _ _ _ _ _ _ _ _ _
      | exact ih5 _ _ _ _ _ _ _ _ _ _ _ _
      | exact ih6 _ _ _ _ _ _ _ _ _ _
      | exact quadratref06_Valid.mono _ _ _ _
      | exact quadratref06_size.mono _ _
      | exact LeO.none _
      | refine LeO.ite ?_ ?_
      | refine LeO.bind ?_ (fun _ => ?_)
    · intro y0 y1 y2 y3 y4
      unfold quadratref06_Cut.l0
      repeat' first
      | (with_reducible exact ih0 _ _ _ _ _)
      | (with_reducible exact ih1 _ _ _ _ _)
      | (with_reducible exact ih2 _ _ _ _ _ _ _ _)
      | (with_reducible exact ih3 _ _ _ _ _ _ _ _ _ _ _)
      | (with_reducible exact ih4 _ _ _ _ _ _ _ _ _ _ _ _)
      | (with_reducible exact ih5 _ _ _ _ _ _ _ _ _ _ _ _)
      | (with_reducible exact ih6 _ _ _ _ _ _ _ _ _ _)
      | (with_reducible exact quadratref06_Valid.mono _ _ _ _)
      | (with_reducible exact quadratref06_size.mono _ _)
      | (with_reducible exact LeO.refl _)
      | (with_reducible exact LeO.none _)
      | (with_reducible refine LeO.ite ?_ ?_)
      | (with_reducible refine LeO.bind ?_ (fun _ => ?_))
      | exact ih0 _ _ _ _ _
      | exact ih1 _ _ _ _ _
      | exact ih2 _ _ _ _ _ _ _ _
      | exact ih3 _ _ _ _ _ _ _ _ _ _ _
      | exact ih4 _ _ _ _ _ _ _ _ _ _ _ _
      | exact ih5 _ _ _ _ _ _ _ _ _ _ _ _
      | exact ih6 _ _ _ _ _ _ _ _ _ _
      | exact quadratref06_Valid.mono _ _ _ _
      | exact quadratref06_size.mono _ _
      | exact LeO.none _
      | refine LeO.ite ?_ ?_
      | refine LeO.bind ?_ (fun _ => ?_)
    · intro y0 y1 y2 y3 y4 y5 y6 y7
      unfold quadratref06_Cut.l1
      repeat' first
      | (with_reducible exact ih0 _ _ _ _ _)
      | (with_reducible exact ih1 _ _ _ _ _)
      | (with_reducible exact ih2 _ _ _ _ _ _ _ _)
      | (with_reducible exact ih3 _ _ _ _ _ _ _ _ _ _ _)
      | (with_reducible exact ih4 _ _ _ _ _ _ _ _ _ _ _ _)
      | (with_reducible exact ih5 _ _ _ _ _ _ _ _ _ _ _ _)
      | (with_reducible exact ih6 _ _ _ _ _ _ _ _ _ _)
      | (with_reducible exact quadratref06_Valid.mono _ _ _ _)
      | (with_reducible exact quadratref06_size.mono _ _)
      | (with_reducible exact LeO.refl _)
      | (with_reducible exact LeO.none _)
      | (with_reducible refine LeO.ite ?_ ?_)
      | (with_reducible refine LeO.bind ?_ (fun _ => ?_))
      | exact ih0 _ _ _ _ _
      | exact ih1 _ _ _ _ _
      | exact ih2 _ _ _ _ _ _ _ _
      | exact ih3 _ _ _ _ _ _ _ _ _ _ _
      | exact ih4 _ _ _ _ _ _ _ _ _ _ _ _
      | exact ih5 _ _ _ _ _ _ _ _ _ _ _ _
      | exact ih6 _ _ _ _ _ _ _ _ _ _
      | exact quadratref06_Valid.mono _ _ _ _
      | exact quadratref06_size.mono _ _
      | exact LeO.none _
      | refine LeO.ite ?_ ?_
      | refine LeO.bind ?_ (fun _ => ?_)
    · intro y0 y1 y2 y3 y4 y5 y6 y7 y8 y9 y10
      unfold quadratref06_Cut.j3
      repeat' first
      | (with_reducible exact ih0 _ _ _ _ _)
      | (with_reducible exact ih1 _ _ _ _ _)
      | (with_reducible exact ih2 _ _ _ _ _ _ _ _)
      | (with_reducible exact ih3 _ _ _ _ _ _ _ _ _ _ _)
      | (with_reducible exact ih4 _ _ _ _ _ _ _ _ _ _ _ _)
      | (with_reducible exact ih5 _ _ _ _ _ _ _ _ _ _ _ _)
      | (with_reducible exact ih6 _ _ _ _ _ _ _ _ _ _)
      | (with_reducible exact quadratref06_Valid.mono _ _ _ _)
      | (with_reducible exact quadratref06_size.mono _ _)
      | (with_reducible exact LeO.refl _)
      | (with_reducible exact LeO.none _)
      | (with_reducible refine LeO.ite ?_ ?_)
      | (with_reducible refine LeO.bind ?_ (fun _ => ?_))
      | exact ih0 _ _ _ _ _
      | exact ih1 _ _ _ _ _
      | exact ih2 _ _ _ _ _ _ _ _
      | exact ih3 _ _ _ _ _ _ _ _ _ _ _
      | exact ih4 _ _ _ _ _ _ _ _ _ _ _ _
      | exact ih5 _ _ _ _ _ _ _ _ _ _ _ _
      | exact ih6 _ _ _ _ _ _ _ _ _ _
      | exact quadratref06_Valid.mono _ _ _ _
      | exact quadratref06_size.mono _ _
      | exact LeO.none _
      | refine LeO.ite ?_ ?_
      | refine LeO.bind ?_ (fun _ => ?_)
    · intro y0 y1 y2 y3 y4 y5 y6 y7 y8 y9 y10 y11
      unfold quadratref06_Cut.j4
      repeat' first
      | (with_reducible exact ih0 _ _ _ _ _)
      | (with_reducible exact ih1 _ _ _ _ _)
      | (with_reducible exact ih2 _ _ _ _ _ _ _ _)
      | (with_reducible exact ih3 _ _ _ _ _ _ _ _ _ _ _)
      | (with_reducible exact ih4 _ _ _ _ _ _ _ _ _ _ _ _)
      | (with_reducible exact ih5 _ _ _ _ _ _ _ _ _ _ _ _)
      | (with_reducible exact ih6 _ _ _ _ _ _ _ _ _ _)
      | (with_reducible exact quadratref06_Valid.mono _ _ _ _)
      | (with_reducible exact quadratref06_size.mono _ _)
      | (with_reducible exact LeO.refl _)
      | (with_reducible exact LeO.none _)
      | (with_reducible refine LeO.ite ?_ ?_)
      | (with_reducible refine LeO.bind ?_ (fun _ => ?_))
      | exact ih0 _ _ _ _ _
      | exact ih1 _ _ _ _ _
      | exact ih2 _ _ _ _ _ _ _ _
      | exact ih3 _ _ _ _ _ _ _ _ _ _ _
      | exact ih4 _ _ _ _ _ _ _ _ _ _ _ _
      | exact ih5 _ _ _ _ _ _ _ _ _ _ _ _
      | exact ih6 _ _ _ _ _ _ _ _ _ _
      | exact quadratref06_Valid.mono _ _ _ _
      | exact quadratref06_size.mono _ _
      | exact LeO.none _
      | refine LeO.ite ?_ ?_
      | refine LeO.bind ?_ (fun _ => ?_)
    · intro y0 y1 y2 y3 y4 y5 y6 y7 y8 y9 y10 y11
      unfold quadratref06_Cut.j5
      repeat' first
      | (with_reducible exact ih0 _ _ _ _ _)
      | (with_reducible exact ih1 _ _ _ _ _)
      | (with_reducible exact ih2 _ _ _ _ _ _ _ _)
      | (with_reducible exact ih3 _ _ _ _ _ _ _ _ _ _ _)
      | (with_reducible exact ih4 _ _ _ _ _ _ _ _ _ _ _ _)
      | (with_reducible exact ih5 _ _ _ _ _ _ _ _ _ _ _ _)
      | (with_reducible exact ih6 _ _ _ _ _ _ _ _ _ _)
      | (with_reducible exact quadratref06_Valid.mono _ _ _ _)
      | (with_reducible exact quadratref06_size.mono _ _)
      | (with_reducible exact LeO.refl _)
      | (with_reducible exact LeO.none _)
      | (with_reducible refine LeO.ite ?_ ?_)
      | (with_reducible refine LeO.bind ?_ (fun _ => ?_))
      | exact ih0 _ _ _ _ _
      | exact ih1 _ _ _ _ _
      | exact ih2 _ _ _ _ _ _ _ _
      | exact ih3 _ _ _ _ _ _ _ _ _ _ _
      | exact ih4 _ _ _ _ _ _ _ _ _ _ _ _
      | exact ih5 _ _ _ _ _ _ _ _ _ _ _ _
      | exact ih6 _ _ _ _ _ _ _ _ _ _
      | exact quadratref06_Valid.mono _ _ _ _
      | exact quadratref06_size.mono _ _
      | exact LeO.none _
      | refine LeO.ite ?_ ?_
      | refine LeO.bind ?_ (fun _ => ?_)
    · intro y0 y1 y2 y3 y4 y5 y6 y7 y8 y9
      unfold quadratref06_Cut.j6
      repeat' first
      | (with_reducible exact ih0 _ _ _ _ _)
      | (with_reducible exact ih1 _ _ _ _ _)
      | (with_reducible exact ih2 _ _ _ _ _ _ _ _)
      | (with_reducible exact ih3 _ _ _ _ _ _ _ _ _ _ _)
      | (with_reducible exact ih4 _ _ _ _ _ _ _ _ _ _ _ _)
      | (with_reducible exact ih5 _ _ _ _ _ _ _ _ _ _ _ _)
      | (with_reducible exact ih6 _ _ _ _ _ _ _ _ _ _)
      | (with_reducible exact quadratref06_Valid.mono _ _ _ _)
      | (with_reducible exact quadratref06_size.mono _ _)
      | (with_reducible exact LeO.refl _)
      | (with_reducible exact LeO.none _)
      | (with_reducible refine LeO.ite ?_ ?_)
      | (with_reducible refine LeO.bind ?_ (fun _ => ?_))
      | exact ih0 _ _ _ _ _
      | exact ih1 _ _ _ _ _
      | exact ih2 _ _ _ _ _ _ _ _
      | exact ih3 _ _ _ _ _ _ _ _ _ _ _
      | exact ih4 _ _ _ _ _ _ _ _ _ _ _ _
      | exact ih5 _ _ _ _ _ _ _ _ _ _ _ _
      | exact ih6 _ _ _ _ _ _ _ _ _ _
      | exact quadratref06_Valid.mono _ _ _ _
      | exact quadratref06_size.mono _ _
      | exact LeO.none _
      | refine LeO.ite ?_ ?_
      | refine LeO.bind ?_ (fun _ => ?_)
theorem quadratref06_Cut.mono : ∀ a0 a1 a2 a3 k, LeO (quadratref06_Cut.f k a0 a1 a2 a3) (quadratref06_Cut.f (k + 1) a0 a1 a2 a3) := by
  intro a0 a1 a2 a3 k
  obtain ⟨ih0, ih1, ih2, ih3, ih4, ih5, ih6⟩ := quadratref06_Cut.mono_l k
  unfold quadratref06_Cut.f
  repeat' first
      | (with_reducible exact ih0 _ _ _ _ _)
      | (with_reducible exact ih1 _ _ _ _ _)
      | (with_reducible exact ih2 _ _ _ _ _ _ _ _)
      | (with_reducible exact ih3 _ _ _ _ _ _ _ _ _ _ _)
      | (with_reducible exact ih4 _ _ _ _ _ _ _ _ _ _ _ _)
      | (with_reducible exact ih5 _ _ _ _ _ _ _ _ _ _ _ _)
      | (with_reducible exact ih6 _ _ _ _ _ _ _ _ _ _)
      | (with_reducible exact quadratref06_Valid.mono _ _ _ _)
      | (with_reducible exact quadratref06_size.mono _ _)
      | (with_reducible exact LeO.refl _)
      | (with_reducible exact LeO.none _)
      | (with_reducible refine LeO.ite ?_ ?_)
      | (with_reducible refine LeO.bind ?_ (fun _ => ?_))
      | exact ih0 _ _ _ _ _
      | exact ih1 _ _ _ _ _
      | exact ih2 _ _ _ _ _ _ _ _
      | exact ih3 _ _ _ _ _ _ _ _ _ _ _
      | exact ih4 _ _ _ _ _ _ _ _ _ _ _ _
      | exact ih5 _ _ _ _ _ _ _ _ _ _ _ _
      | exact ih6 _ _ _ _ _ _ _ _ _ _
      | exact quadratref06_Valid.mono _ _ _ _
      | exact quadratref06_size.mono _ _
      | exact LeO.none _
      | refine LeO.ite ?_ ?_
      | refine LeO.bind ?_ (fun _ => ?_)
def quadratref06_Cut.T15 : Bool × List (List Nat × List Nat) := (true, [([], []), ([0], [0]), ([], []), ([2], [2]), ([], []), ([4], [4]), ([1, 3, 0, 1], [1]), ([3, 6, 0, 1, 2, 3, 6], [3]), ([5, 7, 0, 1, 2, 3, 4, 5, 6, 7], [5])])
def quadratref06_Cut.B15 : List Nat := [0, 1, 0, 4, 0, 16, 15, 79, 255]
theorem quadratref06_Cut.tab15 : rtab .any (opsOf Try.f16 15) = quadratref06_Cut.T15 := by kernel_rfl
theorem quadratref06_Cut.bits15 : waitsOk quadratref06_Cut.T15.2 quadratref06_Cut.B15 = true := by kernel_rfl
def quadratref06_Cut.T20 : Bool × List (List Nat × List Nat) := (true, [([], []), ([0], [0]), ([], []), ([], []), ([3], [3]), ([], []), ([4, 5], [4, 5]), ([6], [6]), ([2, 7], [2, 7]), ([1, 8], [1, 8]), ([0, 1, 2, 3, 4, 5, 6, 7, 8, 9], []), ([10, 9, 0, 1, 2, 3, 4, 5, 6, 7, 8, 9], [9, 10])])
def quadratref06_Cut.B20 : List Nat := [0, 1, 0, 0, 8, 0, 56, 120, 252, 511, 1023, 2047]
theorem quadratref06_Cut.tab20 : rtab .any (opsOf Try.f16 20) = quadratref06_Cut.T20 := by kernel_rfl
theorem quadratref06_Cut.bits20 : waitsOk quadratref06_Cut.T20.2 quadratref06_Cut.B20 = true := by kernel_rfl
def quadratref06_Cut.T24 : Bool × List (List Nat × List Nat) := (true, [([], []), ([0], [0]), ([], []), ([2], [2]), ([1, 3], [1, 3]), ([], []), ([5], [5]), ([], []), ([], []), ([8], [8]), ([], []), ([9, 10], [9, 10]), ([11], [11]), ([7, 12], [7, 12]), ([13], [13]), ([6, 14, 4], [6, 14]), ([0, 1, 2, 3, 4, 5, 6], []), ([16, 4, 15, 0, 1, 2, 3, 4, 5, 6], [4, 16]), ([0, 1, 2, 3, 4, 5, 6, 7, 8, 9, 10, 11, 12, 13, 14, 15, 16, 17], []), ([18, 15, 17, 0, 1, 2, 3, 4, 5, 6, 7, 8, 9, 10, 11, 12, 13, 14, 15, 16, 17], [15, 18])])
def quadratref06_Cut.B24 : List Nat := [0, 1, 0, 4, 15, 0, 32, 0, 0, 256, 0, 1792, 3840, 8064, 16256, 32767, 127, 131071, 262143, 524287]
theorem quadratref06_Cut.tab24 : rtab .any (opsOf Try.f16 24) = quadratref06_Cut.T24 := by kernel_rfl
theorem quadratref06_Cut.bits24 : waitsOk quadratref06_Cut.T24.2 quadratref06_Cut.B24 = true := by kernel_rfl

end Go.Proofs.Yticjlkommabcjaa.PS
