-- Printed by wip/qprint.py of this repository, over the kit's print, out of the translation. Not trusted: Lean checks it.
import Derived.Test.YticjlkommabcjaaPSx0
import Derived.Test.YticjlkommabcjaaPSx1
import Derived.Test.YticjlkommabcjaaPSx3
import Derived.Test.YticjlkommabcjaaPSx5
namespace Go.Proofs.Yticjlkommabcjaa.PS
open Go.RowKit Go.Proofs.YticjlkommabcjaaW.PrintWords Go.Proofs.YticjlkommabcjaaW.PrintLast Go.Proofs.YticjlkommabcjaaW.PrintMore
attribute [local go_sem] max2_int min2_int max_two min_two max_three min_three max_four min_four   -- for this text's walks alone
set_option linter.unusedVariables false
set_option linter.unusedSimpArgs false
set_option maxRecDepth 100000

/-! ### section_Cut: function 15 -/
mutual
def section_Cut.j0 : Nat → List (S58) → Bool → Int → List Int → List Int → Option (Int × List Int × List Int × Int)
  | 0, _, _, _, _, _ => none
  | k + 1, x1, x29, x131000, x131001, x131002 => if x29 = true then (some (0, ([] : List Int), ([] : List Int), 2)) else (section_Cut.l0 k x1 x1 (x1.length : Int) 0 x131000 x131001 x131002)
def section_Cut.l0 : Nat → List (S58) → List (S58) → Int → Int → Int → List Int → List Int → Option (Int × List Int × List Int × Int)
  | 0, _, _, _, _, _, _, _ => none
  | k + 1, x1, x31, x32, x33, x131000, x131001, x131002 => if x33 < x32 then (if 0 ≤ x33 then (if x33 < (x31.length : Int) then ((section_Count.f ((rd_T58 x31 x33).f2.f0) ((rd_T58 x31 x33).f2.f1) ((rd_T58 x31 x33).f2.f2)).bind fun bt135 => (if ((rd_T58 x31 x33).f0 = true) then (section_Cut.l0 k x1 x31 x32 (wrap64 (x33 + 1)) x131000 x131001 x131002) else (if bt135.2 = 0 then (section_Cut.l0 k x1 x31 x32 (wrap64 (x33 + 1)) x131000 x131001 x131002) else (some (0, ([] : List Int), ([] : List Int), bt135.2))))) else (none)) else (none)) else (section_Cut.l1 k x1 (x1.length : Int) 0 x131000 x131001 x131002 x131000 ([] : List Int) ([] : List Int))
def section_Cut.l1 : Nat → List (S58) → Int → Int → Int → List Int → List Int → Int → List Int → List Int → Option (Int × List Int × List Int × Int)
  | 0, _, _, _, _, _, _, _, _, _ => none
  | k + 1, x56, x57, x58, x131000, x131001, x131002, x138000, x138001, x138002 => if x58 < x57 then (if 0 ≤ x58 then (if x58 < (x56.length : Int) then (if x58 < (x131001.length : Int) then (if (rd_T58 x56 x58).f0 = true then (if ((rd_T58 x56 x58).f1) < 0 then (some (0, ([] : List Int), ([] : List Int), 92)) else (if ((rd_T58 x56 x58).f1) > (wrap64 ((rd x131001 x58) - 1)) then (some (0, ([] : List Int), ([] : List Int), 92)) else (if x58 < (x131002.length : Int) then (section_Cut.l1 k x56 x57 (wrap64 (x58 + 1)) x131000 x131001 x131002 (wrap64 (x138000 + (wrap64 (((rd_T58 x56 x58).f1) * (rd x131002 x58))))) x138001 x138002) else (none)))) else ((section_Count.f ((rd_T58 x56 x58).f2.f0) ((rd_T58 x56 x58).f2.f1) ((rd_T58 x56 x58).f2.f2)).bind fun bt142 => (if bt142.1 > 0 then (if (mn ((rd_T58 x56 x58).f2.f0) (wrap64 (((rd_T58 x56 x58).f2.f0) + (wrap64 ((wrap64 (bt142.1 - 1)) * ((rd_T58 x56 x58).f2.f2)))))) < 0 then (some (0, ([] : List Int), ([] : List Int), 92)) else (if (mx ((rd_T58 x56 x58).f2.f0) (wrap64 (((rd_T58 x56 x58).f2.f0) + (wrap64 ((wrap64 (bt142.1 - 1)) * ((rd_T58 x56 x58).f2.f2)))))) > (wrap64 ((rd x131001 x58) - 1)) then (some (0, ([] : List Int), ([] : List Int), 92)) else (section_Cut.j3 k x58 bt142.1 ((rd_T58 x56 x58).f2.f0) x56 x57 x58 x131000 x131001 x131002 x138000 x138001 x138002 ((rd_T58 x56 x58).f0) ((rd_T58 x56 x58).f1) ((rd_T58 x56 x58).f2.f0) ((rd_T58 x56 x58).f2.f1) ((rd_T58 x56 x58).f2.f2)))) else (section_Cut.j3 k x58 bt142.1 0 x56 x57 x58 x131000 x131001 x131002 x138000 x138001 x138002 ((rd_T58 x56 x58).f0) ((rd_T58 x56 x58).f1) ((rd_T58 x56 x58).f2.f0) ((rd_T58 x56 x58).f2.f1) ((rd_T58 x56 x58).f2.f2))))) else (none)) else (none)) else (none)) else ((section_size.f k x131001).bind fun t155 => (if t155 = 0 then (some (x131000, x138001, x138002, 0)) else (some (x138000, x138001, x138002, 0))))
def section_Cut.j3 : Nat → Int → Int → Int → List (S58) → Int → Int → Int → List Int → List Int → Int → List Int → List Int → Bool → Int → Int → Int → Int → Option (Int × List Int × List Int × Int)
  | 0, _, _, _, _, _, _, _, _, _, _, _, _, _, _, _, _, _ => none
  | k + 1, x11, x14, x16, x56, x57, x58, x131000, x131001, x131002, x138000, x138001, x138002, x140000, x140001, x140002, x140003, x140004 => if 0 ≤ x11 then (if x11 < (x131002.length : Int) then (if x138001.length < 17592186044416 then ((some (x138001 ++ [x14] : List Int)).bind fun y145 => (if x14 > 1 then (if x138002.length < 17592186044416 then (section_Cut.l1 k x56 x57 (wrap64 (x58 + 1)) x131000 x131001 x131002 (wrap64 (x138000 + (wrap64 (x16 * (rd x131002 x11))))) y145 (x138002 ++ [wrap64 ((rd x131002 x11) * x140004)])) else (none)) else (if x138002.length < 17592186044416 then (section_Cut.l1 k x56 x57 (wrap64 (x58 + 1)) x131000 x131001 x131002 (wrap64 (x138000 + (wrap64 (x16 * (rd x131002 x11))))) y145 (x138002 ++ [rd x131002 x11])) else (none)))) else (none)) else (none)) else (none)
end
def section_Cut.f (k : Nat) (a0_0 : Int) (l0_1 : List Int) (l0_2 : List Int) (l1 : List (S58)) : Option (Int × List Int × List Int × Int) := (section_Valid.f k a0_0 l0_1 l0_2).bind fun t132 => (if t132 = true then (section_Cut.j0 k l1 ((l1.length : Int) != (l0_1.length : Int)) a0_0 l0_1 l0_2) else (section_Cut.j0 k l1 true a0_0 l0_1 l0_2))
theorem section_Cut.mono_l : ∀ k, (∀ y0 y1 y2 y3 y4, LeO (section_Cut.j0 k y0 y1 y2 y3 y4) (section_Cut.j0 (k + 1) y0 y1 y2 y3 y4)) ∧ (∀ y0 y1 y2 y3 y4 y5 y6, LeO (section_Cut.l0 k y0 y1 y2 y3 y4 y5 y6) (section_Cut.l0 (k + 1) y0 y1 y2 y3 y4 y5 y6)) ∧ (∀ y0 y1 y2 y3 y4 y5 y6 y7 y8, LeO (section_Cut.l1 k y0 y1 y2 y3 y4 y5 y6 y7 y8) (section_Cut.l1 (k + 1) y0 y1 y2 y3 y4 y5 y6 y7 y8)) ∧ (∀ y0 y1 y2 y3 y4 y5 y6 y7 y8 y9 y10 y11 y12 y13 y14 y15 y16, LeO (section_Cut.j3 k y0 y1 y2 y3 y4 y5 y6 y7 y8 y9 y10 y11 y12 y13 y14 y15 y16) (section_Cut.j3 (k + 1) y0 y1 y2 y3 y4 y5 y6 y7 y8 y9 y10 y11 y12 y13 y14 y15 y16))
  | 0 => ⟨fun _ _ _ _ _ r h => by simp [section_Cut.j0] at h, fun _ _ _ _ _ _ _ r h => by simp [section_Cut.l0] at h, fun _ _ _ _ _ _ _ _ _ r h => by simp [section_Cut.l1] at h, fun _ _ _ _ _ _ _ _ _ _ _ _ _ _ _ _ _ r h => by simp [section_Cut.j3] at h⟩
  | k + 1 => by
    obtain ⟨ih0, ih1, ih2, ih3⟩ := section_Cut.mono_l k
    refine ⟨?_, ?_, ?_, ?_⟩
    · intro y0 y1 y2 y3 y4
      unfold section_Cut.j0
      repeat' first
      | (with_reducible exact ih0 _ _ _ _ _)
      | (with_reducible exact ih1 _ _ _ _ _ _ _)
      | (with_reducible exact ih2 _ _ _ _ _ _ _ _ _)
      | (with_reducible exact ih3 _ _ _ _ _ _ _ _ _ _ _ _ _ _ _ _ _)
      | (with_reducible exact section_Valid.mono _ _ _ _)
      | (with_reducible exact section_size.mono _ _)
      | (with_reducible exact LeO.refl _)
      | (with_reducible exact LeO.none _)
      | (with_reducible refine LeO.ite ?_ ?_)
      | (with_reducible refine LeO.bind ?_ (fun _ => ?_))
      | exact ih0 _ _ _ _ _
      | exact ih1 _ _ _ _ _ _ _
      | exact ih2 _ _ _ _ _ _ _ _ _
      | exact ih3 _ _ _ _ _ _ _ _ _ _ _ _ _ _ _ _ _
      | exact section_Valid.mono _ _ _ _
      | exact section_size.mono _ _
      | exact LeO.none _
      | refine LeO.ite ?_ ?_
      | refine LeO.bind ?_ (fun _ => ?_)
    · intro y0 y1 y2 y3 y4 y5 y6
      unfold section_Cut.l0
      repeat' first
      | (with_reducible exact ih0 _ _ _ _ _)
      | (with_reducible exact ih1 _ _ _ _ _ _ _)
      | (with_reducible exact ih2 _ _ _ _ _ _ _ _ _)
      | (with_reducible exact ih3 _ _ _ _ _ _ _ _ _ _ _ _ _ _ _ _ _)
      | (with_reducible exact section_Valid.mono _ _ _ _)
      | (with_reducible exact section_size.mono _ _)
      | (with_reducible exact LeO.refl _)
      | (with_reducible exact LeO.none _)
      | (with_reducible refine LeO.ite ?_ ?_)
      | (with_reducible refine LeO.bind ?_ (fun _ => ?_))
      | exact ih0 _ _ _ _ _
      | exact ih1 _ _ _ _ _ _ _
      | exact ih2 _ _ _ _ _ _ _ _ _
      | exact ih3 _ _ _ _ _ _ _ _ _ _ _ _ _ _ _ _ _
      | exact section_Valid.mono _ _ _ _
      | exact section_size.mono _ _
      | exact LeO.none _
      | refine LeO.ite ?_ ?_
      | refine LeO.bind ?_ (fun _ => ?_)
    · intro y0 y1 y2 y3 y4 y5 y6 y7 y8
      unfold section_Cut.l1
      repeat' first
      | (with_reducible exact ih0 _ _ _ _ _)
      | (with_reducible exact ih1 _ _ _ _ _ _ _)
      | (with_reducible exact ih2 _ _ _ _ _ _ _ _ _)
      | (with_reducible exact ih3 _ _ _ _ _ _ _ _ _ _ _ _ _ _ _ _ _)
      | (with_reducible exact section_Valid.mono _ _ _ _)
      | (with_reducible exact section_size.mono _ _)
      | (with_reducible exact LeO.refl _)
      | (with_reducible exact LeO.none _)
      | (with_reducible refine LeO.ite ?_ ?_)
      | (with_reducible refine LeO.bind ?_ (fun _ => ?_))
      | exact ih0 _ _ _ _ _
      | exact ih1 _ _ _ _ _ _ _
      | exact ih2 _ _ _ _ _ _ _ _ _
      | exact ih3 _ _ _ _ _ _ _ _ _ _ _ _ _ _ _ _ _
      | exact section_Valid.mono _ _ _ _
      | exact section_size.mono _ _
      | exact LeO.none _
      | refine LeO.ite ?_ ?_
      | refine LeO.bind ?_ (fun _ => ?_)
    · intro y0 y1 y2 y3 y4 y5 y6 y7 y8 y9 y10 y11 y12 y13 y14 y15 y16
      unfold section_Cut.j3
      repeat' first
      | (with_reducible exact ih0 _ _ _ _ _)
      | (with_reducible exact ih1 _ _ _ _ _ _ _)
      | (with_reducible exact ih2 _ _ _ _ _ _ _ _ _)
      | (with_reducible exact ih3 _ _ _ _ _ _ _ _ _ _ _ _ _ _ _ _ _)
      | (with_reducible exact section_Valid.mono _ _ _ _)
      | (with_reducible exact section_size.mono _ _)
      | (with_reducible exact LeO.refl _)
      | (with_reducible exact LeO.none _)
      | (with_reducible refine LeO.ite ?_ ?_)
      | (with_reducible refine LeO.bind ?_ (fun _ => ?_))
      | exact ih0 _ _ _ _ _
      | exact ih1 _ _ _ _ _ _ _
      | exact ih2 _ _ _ _ _ _ _ _ _
      | exact ih3 _ _ _ _ _ _ _ _ _ _ _ _ _ _ _ _ _
      | exact section_Valid.mono _ _ _ _
      | exact section_size.mono _ _
      | exact LeO.none _
      | refine LeO.ite ?_ ?_
      | refine LeO.bind ?_ (fun _ => ?_)
theorem section_Cut.mono : ∀ a0 a1 a2 a3 k, LeO (section_Cut.f k a0 a1 a2 a3) (section_Cut.f (k + 1) a0 a1 a2 a3) := by
  intro a0 a1 a2 a3 k
  obtain ⟨ih0, ih1, ih2, ih3⟩ := section_Cut.mono_l k
  unfold section_Cut.f
  repeat' first
      | (with_reducible exact ih0 _ _ _ _ _)
      | (with_reducible exact ih1 _ _ _ _ _ _ _)
      | (with_reducible exact ih2 _ _ _ _ _ _ _ _ _)
      | (with_reducible exact ih3 _ _ _ _ _ _ _ _ _ _ _ _ _ _ _ _ _)
      | (with_reducible exact section_Valid.mono _ _ _ _)
      | (with_reducible exact section_size.mono _ _)
      | (with_reducible exact LeO.refl _)
      | (with_reducible exact LeO.none _)
      | (with_reducible refine LeO.ite ?_ ?_)
      | (with_reducible refine LeO.bind ?_ (fun _ => ?_))
      | exact ih0 _ _ _ _ _
      | exact ih1 _ _ _ _ _ _ _
      | exact ih2 _ _ _ _ _ _ _ _ _
      | exact ih3 _ _ _ _ _ _ _ _ _ _ _ _ _ _ _ _ _
      | exact section_Valid.mono _ _ _ _
      | exact section_size.mono _ _
      | exact LeO.none _
      | refine LeO.ite ?_ ?_
      | refine LeO.bind ?_ (fun _ => ?_)
def section_Cut.T18 : Bool × List (List Nat × List Nat) := (true, [([], []), ([0], [0]), ([], []), ([2], [2]), ([], []), ([4], [4]), ([], []), ([5, 6], [5, 6]), ([7], [7]), ([3, 8], [3, 8]), ([1, 9], [1, 9]), ([0, 1, 2, 3, 4, 5, 6, 7, 8, 9, 10], []), ([11, 10, 0, 1, 2, 3, 4, 5, 6, 7, 8, 9, 10], [10, 11])])
def section_Cut.B18 : List Nat := [0, 1, 0, 4, 0, 16, 0, 112, 240, 508, 1023, 2047, 4095]
theorem section_Cut.tab18 : rtab .any (opsOf Try.f15 18) = section_Cut.T18 := by kernel_rfl
theorem section_Cut.bits18 : waitsOk section_Cut.T18.2 section_Cut.B18 = true := by kernel_rfl
def section_Cut.T26 : Bool × List (List Nat × List Nat) := (true, [([], []), ([0], [0]), ([], []), ([], []), ([3], [3]), ([], []), ([4, 5], [4, 5]), ([6], [6]), ([2, 7], [2, 7]), ([1, 8], [1, 8]), ([0, 1, 2, 3, 4, 5, 6, 7, 8, 9], []), ([10, 9, 0, 1, 2, 3, 4, 5, 6, 7, 8, 9], [9, 10])])
def section_Cut.B26 : List Nat := [0, 1, 0, 0, 8, 0, 56, 120, 252, 511, 1023, 2047]
theorem section_Cut.tab26 : rtab .any (opsOf Try.f15 26) = section_Cut.T26 := by kernel_rfl
theorem section_Cut.bits26 : waitsOk section_Cut.T26.2 section_Cut.B26 = true := by kernel_rfl

end Go.Proofs.Yticjlkommabcjaa.PS
