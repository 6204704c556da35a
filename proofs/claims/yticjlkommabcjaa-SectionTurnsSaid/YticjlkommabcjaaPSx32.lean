-- Printed by wip/qprint.py of this repository, over the kit's print, out of the translation. Not trusted: Lean checks it.
import Derived.Test.YticjlkommabcjaaPSx0
import Derived.Test.YticjlkommabcjaaPSx3
import Derived.Test.YticjlkommabcjaaPSx5
import Derived.Test.YticjlkommabcjaaPSx8
import Derived.Test.YticjlkommabcjaaUp
namespace Go.Proofs.Yticjlkommabcjaa.PS
open Go.RowKit Go.Proofs.YticjlkommabcjaaW.PrintWords Go.Proofs.YticjlkommabcjaaW.PrintLast Go.Proofs.YticjlkommabcjaaW.PrintMore
attribute [local go_sem] max2_int min2_int max_two min_two max_three min_three max_four min_four   -- for this text's walks alone
set_option linter.unusedVariables false
set_option linter.unusedSimpArgs false
set_option maxRecDepth 100000

/-! ### section_Reverse: function 37 -/
def section_Reverse.j0 : Nat → Int → Bool → Int → List Int → List Int → Option (Int × List Int × List Int × Int)
  | 0, _, _, _, _, _ => none
  | k + 1, x1, Ve, X5, XX, X2 => if Ve = true then (some (0, ([] : List Int), ([] : List Int), 2)) else ((slices_Clone.f XX).bind fun Xp => ((slices_Clone.f X2).bind fun Xh => ((section_size.f k XX).bind fun XR => (if XR > 0 then (if 0 ≤ x1 then (if x1 < (XX.length : Int) then (if x1 < (X2.length : Int) then (if x1 < (Xh.length : Int) then (some (wrap64 (X5 + (wrap64 ((wrap64 ((rd XX x1) - 1)) * (rd X2 x1)))), Xp, (Xh.set (x1 : Int).toNat (wrap64 (-(rd Xh x1)))), 0)) else (none)) else (none)) else (none)) else (none)) else (if 0 ≤ x1 then (if x1 < (Xh.length : Int) then (some (X5, Xp, (Xh.set (x1 : Int).toNat (wrap64 (-(rd Xh x1)))), 0)) else (none)) else (none))))))
def section_Reverse.f (k : Nat) (a0_0 : Int) (Xg : List Int) (Xk : List Int) (a1 : Int) : Option (Int × List Int × List Int × Int) := (section_Valid.f k a0_0 Xg Xk).bind fun X9 => (if X9 = true then (if a1 < 0 then (section_Reverse.j0 k a1 true a0_0 Xg Xk) else (section_Reverse.j0 k a1 (decide (a1 ≥ (Xg.length : Int))) a0_0 Xg Xk)) else (section_Reverse.j0 k a1 true a0_0 Xg Xk))
theorem section_Reverse.mono_l : ∀ k, (∀ y0 y1 y2 y3 y4, LeO (section_Reverse.j0 k y0 y1 y2 y3 y4) (section_Reverse.j0 (k + 1) y0 y1 y2 y3 y4))
  | 0 => fun _ _ _ _ _ r h => by simp [section_Reverse.j0] at h
  | k + 1 => by
    have ih0 := section_Reverse.mono_l k
    · intro y0 y1 y2 y3 y4
      unfold section_Reverse.j0
      repeat' first
      | (with_reducible exact ih0 _ _ _ _ _)
      | (with_reducible exact section_Valid.mono _ _ _ _)
      | (with_reducible exact section_size.mono _ _)
      | (with_reducible exact LeO.refl _)
      | (with_reducible exact LeO.none _)
      | (with_reducible refine LeO.ite ?_ ?_)
      | (with_reducible refine LeO.bind ?_ (fun _ => ?_))
      | exact ih0 _ _ _ _ _
      | exact section_Valid.mono _ _ _ _
      | exact section_size.mono _ _
      | exact LeO.none _
      | refine LeO.ite ?_ ?_
      | refine LeO.bind ?_ (fun _ => ?_)
theorem section_Reverse.mono : ∀ a0 a1 a2 a3 k, LeO (section_Reverse.f k a0 a1 a2 a3) (section_Reverse.f (k + 1) a0 a1 a2 a3) := by
  intro a0 a1 a2 a3 k
  have ih0 := section_Reverse.mono_l k
  unfold section_Reverse.f
  repeat' first
      | (with_reducible exact ih0 _ _ _ _ _)
      | (with_reducible exact section_Valid.mono _ _ _ _)
      | (with_reducible exact section_size.mono _ _)
      | (with_reducible exact LeO.refl _)
      | (with_reducible exact LeO.none _)
      | (with_reducible refine LeO.ite ?_ ?_)
      | (with_reducible refine LeO.bind ?_ (fun _ => ?_))
      | exact ih0 _ _ _ _ _
      | exact section_Valid.mono _ _ _ _
      | exact section_size.mono _ _
      | exact LeO.none _
      | refine LeO.ite ?_ ?_
      | refine LeO.bind ?_ (fun _ => ?_)
def section_Reverse.T3 : Bool × List (List Nat × List Nat) := (true, [([], []), ([0], [0]), ([], []), ([2], [2]), ([3], [3]), ([], []), ([5], [5]), ([6, 4], [6]), ([1, 4, 7], [1, 4, 7]), ([], []), ([9, 8, 7, 0, 1, 2, 3, 4, 5, 6, 7, 8, 9], [8, 9])])
def section_Reverse.B3 : List Nat := [0, 1, 0, 4, 12, 0, 32, 124, 255, 0, 1023]
theorem section_Reverse.tab3 : rtab .any (opsOf Try.f37 3) = section_Reverse.T3 := by kernel_rfl
theorem section_Reverse.bits3 : waitsOk section_Reverse.T3.2 section_Reverse.B3 = true := by kernel_rfl
def section_Reverse.T5 : Bool × List (List Nat × List Nat) := (true, [([], []), ([0], [0]), ([], []), ([2], [2]), ([], []), ([3, 4], [3, 4]), ([5], [5]), ([6], [6]), ([], []), ([8], [8]), ([], []), ([9, 10], [9, 10]), ([11], [11]), ([7, 12], [7, 12]), ([1, 13], [1, 13]), ([0, 1, 2, 3, 4, 5, 6, 7, 8, 9, 10, 11, 12, 13, 14], []), ([15, 14, 0, 1, 2, 3, 4, 5, 6, 7, 8, 9, 10, 11, 12, 13, 14], [14, 15])])
def section_Reverse.B5 : List Nat := [0, 1, 0, 4, 0, 28, 60, 124, 0, 256, 0, 1792, 3840, 8188, 16383, 32767, 65535]
theorem section_Reverse.tab5 : rtab .any (opsOf Try.f37 5) = section_Reverse.T5 := by kernel_rfl
theorem section_Reverse.bits5 : waitsOk section_Reverse.T5.2 section_Reverse.B5 = true := by kernel_rfl
def section_Reverse.T6 : Bool × List (List Nat × List Nat) := (true, [([], []), ([0], [0]), ([], []), ([], []), ([3], [3]), ([], []), ([4, 5], [4, 5]), ([6], [6]), ([7], [7]), ([1, 2, 0, 1, 2, 3, 4, 5, 6, 7, 8], [1, 2]), ([9, 8, 0, 1, 2, 3, 4, 5, 6, 7, 8], [8, 9])])
def section_Reverse.B6 : List Nat := [0, 1, 0, 0, 8, 0, 56, 120, 248, 511, 1023]
theorem section_Reverse.tab6 : rtab .any (opsOf Try.f37 6) = section_Reverse.T6 := by kernel_rfl
theorem section_Reverse.bits6 : waitsOk section_Reverse.T6.2 section_Reverse.B6 = true := by kernel_rfl
set_option maxHeartbeats 8000000 in
set_option maxRecDepth 100000 in
theorem section_Reverse.calls (k : Nat) (a0_0 : Int) (Xu : Option Addr) (Xs : Nat) (Xg : List Int) (Xv : Option Addr) (Xt : Nat) (Xk : List Int) (a1 : Int) (r1 : Int) (r2 : List Int) (r3 : List Int) (r4 : Int) (w : World) (hr0_1 : Kd.C (Kd.int .i64) w Xu Xg.length Xg) (hc0_1 : Xg.length ≤ Xs) (hr0_2 : Kd.C (Kd.int .i64) w Xv Xk.length Xk) (hc0_2 : Xk.length ≤ Xt) (h : section_Reverse.f k a0_0 Xg Xk a1 = some (r1, r2, r3, r4)) :
    Calls Try.prog 37 #[.agg #[.int .i64 a0_0, .slice Xu Xg.length Xs, .slice Xv Xk.length Xt], .int .i64 a1] w fun e w' => ∃ v1_ v2_ : Value, e = .returned (.tuple #[.agg #[.int .i64 r1, v1_, v2_], .int .i64 r4]) ∧ Kd.R (Kd.int .i64) 3 w' w.heap.size (fun k_ => some k_ ≠ (v2_ : Value).ownBlock) v1_ r2 ∧ Kd.R (Kd.int .i64) 3 w' w.heap.size (fun k_ => some k_ ≠ (v1_ : Value).ownBlock) v2_ r3 ∧ Below w.heap.size w w' := by
  have hu31 := Try.underlying31
  have XO := Aside0.mk hr0_1
  have XS := Aside0.mk hc0_1
  clear hr0_1 hc0_1
  have XP := Aside0.mk hr0_2
  have XT := Aside0.mk hc0_2
  clear hr0_2 hc0_2
  have HB := Aside0.mk (Below.refl w.heap.size w)
  have H : ((section_Valid.f k a0_0 Xg Xk).bind fun X9 => (if X9 = true then (if a1 < 0 then (section_Reverse.j0 k a1 true a0_0 Xg Xk) else (section_Reverse.j0 k a1 (decide (a1 ≥ (Xg.length : Int))) a0_0 Xg Xk)) else (section_Reverse.j0 k a1 true a0_0 Xg Xk))) = some (r1, r2, r3, r4) := h
  clear h
  have ZH := Aside0.mk H
  clear H
  go_enter Try.func37, Try.ntmps37
  go_upto_region 1 with (first | ((with_reducible refine gate_dst (N := 2) rfl ?_); (try (refine gate_guard (by rfl) ?_; dsimp only)); refine box_event ?hg (N := 2) ?hd (cs := #[.int .i64 a0_0, .slice Xu Xg.length Xs, .slice Xv Xk.length Xt]) (t := 31) ?hr ?_; (case hd => rfl); (case hg => rfl); (case hr => first | (go_simp; done) | (go_simp; rfl)); intro Xe hg w4 hbox hb; have Xx := Aside0.mk (below_step (by exact upL HB.out) hb); have Xy := Aside0.mk (hbox); have Xz := Aside0.mk ((by rw [hg]; exact (below_size (by exact upL HB.out)) : w.heap.size ≤ Xe)); have XA := Aside0.mk ((by rw [hg]; exact (below_size (by exact upL HB.out)) : w.heap.size ≤ Xe)); clear HB; have HB := Xx; have Xa := Xy; have ZM := Xz; have Xn := XA; clear Xx Xy Xz XA; clear hb hbox hg) | ((with_reducible refine gate_dst (N := 4) rfl ?_); (try (refine gate_guard (by rfl) ?_; dsimp only)); refine box_event ?hg (N := 4) ?hd (cs := #[.int .i64 0, .slice none 0 0, .slice none 0 0]) (t := 31) ?hr ?_; (case hd => rfl); (case hg => rfl); (case hr => first | (go_simp; done) | (go_simp; rfl)); intro Xi hg w5 hbox hb; have Xx := Aside0.mk (blk_below (g := Xe) (o := .cells #[.int .i64 a0_0, .slice Xu Xg.length Xs, .slice Xv Xk.length Xt] 31 (0, 0)) (by exact upB Xa.out) hb); have Xy := Aside0.mk (below_step (by repeat (first | (with_reducible first | exact HB.out | apply upS | refine below_set ?_ Xn.out) | exact HB.out)) hb); have Xz := Aside0.mk (hbox); have XA := Aside0.mk ((by rw [hg]; exact (below_size (by repeat (first | (with_reducible first | exact HB.out | apply upS | refine below_set ?_ Xn.out) | exact HB.out))) : w.heap.size ≤ Xi)); have XB := Aside0.mk ((by rw [hg]; exact (below_size (by repeat (first | (with_reducible first | exact HB.out | apply upS | refine below_set ?_ Xn.out) | exact HB.out))) : w.heap.size ≤ Xi)); have XC := Aside0.mk ((by rw [hg]; exact Nat.ne_of_lt (blk_lt (g := Xe) (o := .cells #[.int .i64 a0_0, .slice Xu Xg.length Xs, .slice Xv Xk.length Xt] 31 (0, 0)) (by exact upB Xa.out)) : Xe ≠ Xi)); have XW := Aside0.mk ((by rw [hg]; exact Nat.ne_of_gt (blk_lt (g := Xe) (o := .cells #[.int .i64 a0_0, .slice Xu Xg.length Xs, .slice Xv Xk.length Xt] 31 (0, 0)) (by exact upB Xa.out)) : Xi ≠ Xe)); clear Xa; clear HB; have Xa := Xx; have HB := Xy; have Xc := Xz; have ZN := XA; have Xo := XB; have XI := XC; have XJ := XW; clear Xx Xy Xz XA XB XC XW; clear hb hbox hg))
  (try simp only [Act.put, List.setIfInBounds_toArray, List.set_cons_zero, List.set_cons_succ])
  go_cut [20] (fun v20 wc => ∃ (kq : Nat) (X6 : Bool), v20 = .bool X6 ∧ Aside0 (section_Reverse.j0 kq a1 X6 a0_0 Xg Xk = some (r1, r2, r3, r4)) ∧ Aside0 (kq ≤ k) ∧ Aside0 (wc.heap[Xe]? = some (.cells #[.int .i64 a0_0, (.slice Xu Xg.length Xs), (.slice Xv Xk.length Xt)] 31 (0, 0))) ∧ Aside0 (wc.heap[Xi]? = some (.cells #[.int .i64 0, (.slice none 0 0), (.slice none 0 0)] 31 (0, 0))) ∧ Aside0 (Below w.heap.size w wc))
  case first =>
   have H := ZH.out
   clear ZH
   replace H := Option.bind_eq_some_iff.mp H
   obtain ⟨X9, ZO, H⟩ := H
   replace H : (if X9 = true then (if a1 < 0 then (section_Reverse.j0 k a1 true a0_0 Xg Xk) else (section_Reverse.j0 k a1 (decide (a1 ≥ (Xg.length : Int))) a0_0 Xg Xk)) else (section_Reverse.j0 k a1 true a0_0 Xg Xk)) = some (r1, r2, r3, r4) := H
   have A6 := Aside0.mk ZO
   clear ZO
   by_cases c7 : X9 = true
   case neg =>
    replace c7 := Bool.eq_false_iff.mpr c7
    subst c7
    have H1 : (section_Reverse.j0 k a1 true a0_0 Xg Xk) = some (r1, r2, r3, r4) := by rw [if_neg (show ¬ (false = true) by decide)] at H; exact H
    clear H
    have H := H1
    clear H1
    have H' := Aside0.mk H
    clear H
    have ZP := XI.out
    have ZQ := XJ.out
    have Yg : w5.cell? ⟨Xe, 0, none⟩ = some (.int .i64 a0_0) := (blk_cell Xa.out 0).trans rfl
    have Yh : w5.cell? ⟨Xe, 1, none⟩ = some (.slice Xu Xg.length Xs) := (blk_cell Xa.out 1).trans rfl
    have Yi : w5.cell? ⟨Xe, 2, none⟩ = some (.slice Xv Xk.length Xt) := (blk_cell Xa.out 2).trans rfl
    have Yj := blk_frozen Xa.out 0
    have Yk := blk_frozen Xa.out 1
    have Yl := blk_frozen Xa.out 2
    go_wp2_with (first | ((with_reducible refine gate_callee (f := 23) rfl ?_); refine goesL_ (some 8) rfl rfl Try.func23 (by kernel_rfl) rfl #[.agg #[.int .i64 a0_0, .slice Xu Xg.length Xs, .slice Xv Xk.length Xt]] rfl (by (try simp only [List.map_toArray, List.map_cons, List.map_nil]); first | done | rfl | (simp only [List.length_drop, List.length_take]; rfl)) ?_; (with_reducible refine (section_Valid.calls k a0_0 _ _ Xg _ _ Xk false _ ?side1 ?side2 ?side3 ?side4 A6.out).mono ?_); (case side1 => repeat (first | exact (Kd.C_below XO.out HB.out) | (with_reducible refine Kd.C_alloc ?_ _) | (with_reducible refine Kd.C_drewN ?_ _) | (with_reducible refine Kd.C_drew ?_))); (case side2 => exact XS.out); (case side3 => repeat (first | exact (Kd.C_below XP.out HB.out) | (with_reducible refine Kd.C_alloc ?_ _) | (with_reducible refine Kd.C_drewN ?_ _) | (with_reducible refine Kd.C_drew ?_))); (case side4 => exact XT.out); rintro e w18 ⟨rfl, hb⟩; refine ⟨_, rfl, ?_⟩; have Xx := Aside0.mk (blk_below (g := Xe) (o := .cells #[.int .i64 a0_0, .slice Xu Xg.length Xs, .slice Xv Xk.length Xt] 31 (0, 0)) (by exact upB Xa.out) hb); have Xy := Aside0.mk (blk_below (g := Xi) (o := .cells #[.int .i64 0, .slice none 0 0, .slice none 0 0] 31 (0, 0)) (by exact upB Xc.out) hb); have Xz := Aside0.mk (below_step (by repeat (first | (with_reducible first | exact HB.out | apply upS | refine below_set ?_ Xn.out | refine below_set ?_ Xo.out) | exact HB.out)) hb); clear Xa; clear Xc; clear HB; have Xa := Xx; have Xc := Xy; have HB := Xz; clear Xx Xy Xz; (try clear hb); (try clear Yb); (try clear hk); (try clear hi)))
    go_meet
    case rel => exact ⟨_, (true), (by first | rfl | (simp; done) | (simp [*]; done)), H', ⟨by first | omega | exact Nat.le_refl _⟩, ⟨by exact upB Xa.out⟩, ⟨by exact upB Xc.out⟩, ⟨by repeat (first | (with_reducible first | exact HB.out | apply upS | refine below_set ?_ Xn.out | refine below_set ?_ Xo.out) | exact HB.out)⟩⟩
   subst c7
   have H1 : (if a1 < 0 then (section_Reverse.j0 k a1 true a0_0 Xg Xk) else (section_Reverse.j0 k a1 (decide (a1 ≥ (Xg.length : Int))) a0_0 Xg Xk)) = some (r1, r2, r3, r4) := by rw [if_pos rfl] at H; exact H
   clear H
   have H := H1
   clear H1
   by_cases c8 : a1 < 0
   case pos =>
    rw [if_pos c8] at H
    have Ya : decide (a1 < 0) = true := decide_eq_true c8
    clear c8
    (first | rw [Ya] | (simp only [i64_w, i32_w]; rw [Ya]) | skip)
    have H' := Aside0.mk H
    clear H
    have Vf := XI.out
    have Vg := XJ.out
    have Ym : w5.cell? ⟨Xe, 0, none⟩ = some (.int .i64 a0_0) := (blk_cell Xa.out 0).trans rfl
    have Yn : w5.cell? ⟨Xe, 1, none⟩ = some (.slice Xu Xg.length Xs) := (blk_cell Xa.out 1).trans rfl
    have Yo : w5.cell? ⟨Xe, 2, none⟩ = some (.slice Xv Xk.length Xt) := (blk_cell Xa.out 2).trans rfl
    have Yp := blk_frozen Xa.out 0
    have Yq := blk_frozen Xa.out 1
    have Yr := blk_frozen Xa.out 2
    go_wp2_with (first | ((with_reducible refine gate_callee (f := 23) rfl ?_); refine goesL_ (some 8) rfl rfl Try.func23 (by kernel_rfl) rfl #[.agg #[.int .i64 a0_0, .slice Xu Xg.length Xs, .slice Xv Xk.length Xt]] rfl (by (try simp only [List.map_toArray, List.map_cons, List.map_nil]); first | done | rfl | (simp only [List.length_drop, List.length_take]; rfl)) ?_; (with_reducible refine (section_Valid.calls k a0_0 _ _ Xg _ _ Xk true _ ?side1 ?side2 ?side3 ?side4 A6.out).mono ?_); (case side1 => repeat (first | exact (Kd.C_below XO.out HB.out) | (with_reducible refine Kd.C_alloc ?_ _) | (with_reducible refine Kd.C_drewN ?_ _) | (with_reducible refine Kd.C_drew ?_))); (case side2 => exact XS.out); (case side3 => repeat (first | exact (Kd.C_below XP.out HB.out) | (with_reducible refine Kd.C_alloc ?_ _) | (with_reducible refine Kd.C_drewN ?_ _) | (with_reducible refine Kd.C_drew ?_))); (case side4 => exact XT.out); rintro e w11 ⟨rfl, hb⟩; refine ⟨_, rfl, ?_⟩; have Xx := Aside0.mk (blk_below (g := Xe) (o := .cells #[.int .i64 a0_0, .slice Xu Xg.length Xs, .slice Xv Xk.length Xt] 31 (0, 0)) (by exact upB Xa.out) hb); have Xy := Aside0.mk (blk_below (g := Xi) (o := .cells #[.int .i64 0, .slice none 0 0, .slice none 0 0] 31 (0, 0)) (by exact upB Xc.out) hb); have Xz := Aside0.mk (below_step (by repeat (first | (with_reducible first | exact HB.out | apply upS | refine below_set ?_ Xn.out | refine below_set ?_ Xo.out) | exact HB.out)) hb); clear Xa; clear Xc; clear HB; have Xa := Xx; have Xc := Xy; have HB := Xz; clear Xx Xy Xz; (try clear hb); (try clear Yb); (try clear hk); (try clear hi)))
    go_meet
    case rel => exact ⟨_, (true), (by first | rfl | (simp; done) | (simp [*]; done)), H', ⟨by first | omega | exact Nat.le_refl _⟩, ⟨by exact upB Xa.out⟩, ⟨by exact upB Xc.out⟩, ⟨by repeat (first | (with_reducible first | exact HB.out | apply upS | refine below_set ?_ Xn.out | refine below_set ?_ Xo.out) | exact HB.out)⟩⟩
   rw [if_neg c8] at H
   have Ya : decide (a1 < 0) = false := decide_eq_false c8
   clear c8
   (first | rw [Ya] | (simp only [i64_w, i32_w]; rw [Ya]) | skip)
   have H' := Aside0.mk H
   clear H
   have ZR := XI.out
   have ZS := XJ.out
   have Ys : w5.cell? ⟨Xe, 0, none⟩ = some (.int .i64 a0_0) := (blk_cell Xa.out 0).trans rfl
   have Yt : w5.cell? ⟨Xe, 1, none⟩ = some (.slice Xu Xg.length Xs) := (blk_cell Xa.out 1).trans rfl
   have Yu : w5.cell? ⟨Xe, 2, none⟩ = some (.slice Xv Xk.length Xt) := (blk_cell Xa.out 2).trans rfl
   have Yv := blk_frozen Xa.out 0
   have Yw := blk_frozen Xa.out 1
   have Yx := blk_frozen Xa.out 2
   go_wp2_with (first | ((with_reducible refine gate_callee (f := 23) rfl ?_); refine goesL_ (some 8) rfl rfl Try.func23 (by kernel_rfl) rfl #[.agg #[.int .i64 a0_0, .slice Xu Xg.length Xs, .slice Xv Xk.length Xt]] rfl (by (try simp only [List.map_toArray, List.map_cons, List.map_nil]); first | done | rfl | (simp only [List.length_drop, List.length_take]; rfl)) ?_; (with_reducible refine (section_Valid.calls k a0_0 _ _ Xg _ _ Xk true _ ?side1 ?side2 ?side3 ?side4 A6.out).mono ?_); (case side1 => repeat (first | exact (Kd.C_below XO.out HB.out) | (with_reducible refine Kd.C_alloc ?_ _) | (with_reducible refine Kd.C_drewN ?_ _) | (with_reducible refine Kd.C_drew ?_))); (case side2 => exact XS.out); (case side3 => repeat (first | exact (Kd.C_below XP.out HB.out) | (with_reducible refine Kd.C_alloc ?_ _) | (with_reducible refine Kd.C_drewN ?_ _) | (with_reducible refine Kd.C_drew ?_))); (case side4 => exact XT.out); rintro e w14 ⟨rfl, hb⟩; refine ⟨_, rfl, ?_⟩; have Xx := Aside0.mk (blk_below (g := Xe) (o := .cells #[.int .i64 a0_0, .slice Xu Xg.length Xs, .slice Xv Xk.length Xt] 31 (0, 0)) (by exact upB Xa.out) hb); have Xy := Aside0.mk (blk_below (g := Xi) (o := .cells #[.int .i64 0, .slice none 0 0, .slice none 0 0] 31 (0, 0)) (by exact upB Xc.out) hb); have Xz := Aside0.mk (below_step (by repeat (first | (with_reducible first | exact HB.out | apply upS | refine below_set ?_ Xn.out | refine below_set ?_ Xo.out) | exact HB.out)) hb); clear Xa; clear Xc; clear HB; have Xa := Xx; have Xc := Xy; have HB := Xz; clear Xx Xy Xz; (try clear hb); (try clear Yb); (try clear hk); (try clear hi); have Yy : w14.cell? ⟨Xe, 0, none⟩ = some (.int .i64 a0_0) := (blk_cell Xa.out 0).trans rfl; have Yz : w14.cell? ⟨Xe, 1, none⟩ = some (.slice Xu Xg.length Xs) := (blk_cell Xa.out 1).trans rfl; have YA : w14.cell? ⟨Xe, 2, none⟩ = some (.slice Xv Xk.length Xt) := (blk_cell Xa.out 2).trans rfl; have YB := blk_frozen Xa.out 0; have YC := blk_frozen Xa.out 1; have YD := blk_frozen Xa.out 2))
   go_meet
   case rel => exact ⟨_, (decide (a1 ≥ (Xg.length : Int))), (by first | rfl | (simp; done) | (simp [*]; done)), H', ⟨by first | omega | exact Nat.le_refl _⟩, ⟨by exact upB Xa.out⟩, ⟨by exact upB Xc.out⟩, ⟨by repeat (first | (with_reducible first | exact HB.out | apply upS | refine below_set ?_ Xn.out | refine below_set ?_ Xo.out) | exact HB.out)⟩⟩
  clear ZH
  try clear c1
  try clear c2
  try clear p2
  try clear c3
  try clear c7
  try clear c8
  try clear Ya
  try clear c9
  try clear Vj
  try clear Vk
  try clear Ym
  try clear Yn
  try clear Yo
  try clear Ys
  try clear Yt
  try clear Yu
  try clear Yy
  try clear Yz
  try clear YA
  try clear Yg
  try clear Yh
  try clear Yi
  try clear Yp
  try clear Yq
  try clear Yr
  try clear Yv
  try clear Yw
  try clear Yx
  try clear YB
  try clear YC
  try clear YD
  try clear Yj
  try clear Yk
  try clear Yl
  obtain ⟨kq, X6, rfl, HA, HJ2, Xa, Xc, HB⟩ := hcut
  cases kq with
  | zero => exact absurd HA.out (by simp [section_Reverse.j0])
  | succ kj2 =>
   have H := HA.out
   clear HA
   simp only [section_Reverse.j0] at H
   by_cases YT : X6 = true
   case pos =>
    subst YT
    have H1 : (some (0, ([] : List Int), ([] : List Int), 2)) = some (r1, r2, r3, r4) := by rw [if_pos rfl] at H; exact H
    clear H
    have H := H1
    clear H1
    simp only [Option.some.injEq, Prod.mk.injEq] at H
    obtain ⟨rfl, rfl, rfl, rfl⟩ := H
    have ZT := XJ.out
    have ZU := XI.out
    have YU : wc.cell? ⟨Xi, 0, none⟩ = some (.int .i64 0) := (blk_cell Xc.out 0).trans rfl
    have YV : wc.cell? ⟨Xi, 1, none⟩ = some (.slice none 0 0) := (blk_cell Xc.out 1).trans rfl
    have YW : wc.cell? ⟨Xi, 2, none⟩ = some (.slice none 0 0) := (blk_cell Xc.out 2).trans rfl
    have YX := blk_frozen Xc.out 0
    have YY := blk_frozen Xc.out 1
    have YZ := blk_frozen Xc.out 2
    go_wp2
    refine bodyPost_ret (results_ct rfl _ _ Xi 31 #[.int .i64 0, .slice none 0 0, .slice none 0 0] (0, 0) _ rfl (by (with_reducible repeat apply upF); refine blk_put (cs := #[.int .i64 0, .slice none 0 0, .slice none 0 0]) ?_ 2 _ rfl; (with_reducible repeat apply upF); refine blk_put (cs := #[.int .i64 0, .slice none 0 0, .slice none 0 0]) ?_ 1 _ rfl; (with_reducible repeat apply upF); refine blk_put (cs := #[.int .i64 0, .slice none 0 0, .slice none 0 0]) ?_ 0 _ rfl; exact upB Xc.out) Try.underlying31 rfl (by kernel_rfl)) rfl ?_
    exact ⟨_, _, by first | rfl | (simp [errW_none, errW_some] <;> rfl) | (simp [*, errW_none, errW_some] <;> rfl), by first | exact Kd.R_nil _ _ _ _ _ | exact Kd.N_nil _ _ _ _ _ | exact Kd.V_nil _ _ _ _ _ | exact Kd.Q_nil _ _ _ _ _ | exact Kd.S_nil _ _ _ _ _, by first | exact Kd.R_nil _ _ _ _ _ | exact Kd.N_nil _ _ _ _ _ | exact Kd.V_nil _ _ _ _ _ | exact Kd.Q_nil _ _ _ _ _ | exact Kd.S_nil _ _ _ _ _, by repeat (first | (with_reducible first | exact HB.out | apply upS | refine below_set ?_ Xn.out | refine below_set ?_ Xo.out) | exact HB.out)⟩
   replace YT := Bool.eq_false_iff.mpr YT
   subst YT
   have H1 : ((slices_Clone.f Xg).bind fun Xp => ((slices_Clone.f Xk).bind fun Xh => ((section_size.f kj2 Xg).bind fun XR => (if XR > 0 then (if 0 ≤ a1 then (if a1 < (Xg.length : Int) then (if a1 < (Xk.length : Int) then (if a1 < (Xh.length : Int) then (some (wrap64 (a0_0 + (wrap64 ((wrap64 ((rd Xg a1) - 1)) * (rd Xk a1)))), Xp, (Xh.set (a1 : Int).toNat (wrap64 (-(rd Xh a1)))), 0)) else (none)) else (none)) else (none)) else (none)) else (if 0 ≤ a1 then (if a1 < (Xh.length : Int) then (some (a0_0, Xp, (Xh.set (a1 : Int).toNat (wrap64 (-(rd Xh a1)))), 0)) else (none)) else (none)))))) = some (r1, r2, r3, r4) := by rw [if_neg (show ¬ (false = true) by decide)] at H; exact H
   clear H
   have H := H1
   clear H1
   replace H := Option.bind_eq_some_iff.mp H
   obtain ⟨Xp, YN, H⟩ := H
   replace H : ((slices_Clone.f Xk).bind fun Xh => ((section_size.f kj2 Xg).bind fun XR => (if XR > 0 then (if 0 ≤ a1 then (if a1 < (Xg.length : Int) then (if a1 < (Xk.length : Int) then (if a1 < (Xh.length : Int) then (some (wrap64 (a0_0 + (wrap64 ((wrap64 ((rd Xg a1) - 1)) * (rd Xk a1)))), Xp, (Xh.set (a1 : Int).toNat (wrap64 (-(rd Xh a1)))), 0)) else (none)) else (none)) else (none)) else (none)) else (if 0 ≤ a1 then (if a1 < (Xh.length : Int) then (some (a0_0, Xp, (Xh.set (a1 : Int).toNat (wrap64 (-(rd Xh a1)))), 0)) else (none)) else (none))))) = some (r1, r2, r3, r4) := H
   have Y0 := Aside0.mk YN
   clear YN
   replace H := Option.bind_eq_some_iff.mp H
   obtain ⟨Xh, YO, H⟩ := H
   replace H : ((section_size.f kj2 Xg).bind fun XR => (if XR > 0 then (if 0 ≤ a1 then (if a1 < (Xg.length : Int) then (if a1 < (Xk.length : Int) then (if a1 < (Xh.length : Int) then (some (wrap64 (a0_0 + (wrap64 ((wrap64 ((rd Xg a1) - 1)) * (rd Xk a1)))), Xp, (Xh.set (a1 : Int).toNat (wrap64 (-(rd Xh a1)))), 0)) else (none)) else (none)) else (none)) else (none)) else (if 0 ≤ a1 then (if a1 < (Xh.length : Int) then (some (a0_0, Xp, (Xh.set (a1 : Int).toNat (wrap64 (-(rd Xh a1)))), 0)) else (none)) else (none)))) = some (r1, r2, r3, r4) := H
   have YL := Aside0.mk YO
   clear YO
   replace H := Option.bind_eq_some_iff.mp H
   obtain ⟨XR, YP, H⟩ := H
   replace H : (if XR > 0 then (if 0 ≤ a1 then (if a1 < (Xg.length : Int) then (if a1 < (Xk.length : Int) then (if a1 < (Xh.length : Int) then (some (wrap64 (a0_0 + (wrap64 ((wrap64 ((rd Xg a1) - 1)) * (rd Xk a1)))), Xp, (Xh.set (a1 : Int).toNat (wrap64 (-(rd Xh a1)))), 0)) else (none)) else (none)) else (none)) else (none)) else (if 0 ≤ a1 then (if a1 < (Xh.length : Int) then (some (a0_0, Xp, (Xh.set (a1 : Int).toNat (wrap64 (-(rd Xh a1)))), 0)) else (none)) else (none))) = some (r1, r2, r3, r4) := H
   have ZV := Aside0.mk YP
   clear YP
   by_cases YM : XR > 0
   case neg =>
    rw [if_neg YM] at H
    have YQ : decide (0 < XR) = false := decide_eq_false YM
    clear YM
    by_cases Y1 : 0 ≤ a1
    case neg =>
     rw [if_neg Y1] at H
     exact absurd H (by simp)
    rw [if_pos Y1] at H
    have ZW : decide (0 ≤ a1) = true := decide_eq_true Y1
    clear Y1
    by_cases Y2 : a1 < (Xh.length : Int)
    case neg =>
     rw [if_neg Y2] at H
     exact absurd H (by simp)
    rw [if_pos Y2] at H
    have ZX : decide (a1 < (Xh.length : Int)) = true := decide_eq_true Y2
    clear Y2
    obtain ⟨y484, hy484⟩ : ∃ y_ : List Int, y_ = (Xh.set (a1 : Int).toNat (wrap64 (-(rd Xh a1)))) := ⟨_, rfl⟩
    replace H : (some (a0_0, Xp, y484, 0)) = some (r1, r2, r3, r4) := by first | (rw [hy484]; with_reducible exact H) | (have YE := (Option.bind_some _ _).symm.trans H; rw [hy484]; with_reducible exact YE) | (have YE := (Option.bind_some _ _).symm.trans H; with_reducible exact YE) | with_reducible exact H | (rw [hy484]; exact H) | exact H
    have Ny484 := Aside0.mk hy484
    clear hy484
    simp only [Option.some.injEq, Prod.mk.injEq] at H
    obtain ⟨rfl, rfl, rfl, rfl⟩ := H
    try go_wp2
    have Xx := Aside0.mk (blk_drew Xa.out)
    have Xy := Aside0.mk (blk_drew Xc.out)
    have Xz := Aside0.mk (below_drew1 HB.out)
    clear Xa
    clear Xc
    clear HB
    have Xa := Xx
    have Xc := Xy
    have HB := Xz
    clear Xx Xy Xz
    refine start_ (n := 11) (S := fun w' => w'.cell? ⟨Xe, 0, none⟩ = some (.int .i64 a0_0) ∧ w'.cell? ⟨Xe, 1, none⟩ = some (.slice Xu Xg.length Xs) ∧ w'.cell? ⟨Xe, 2, none⟩ = some (.slice Xv Xk.length Xt)) (ds := []) #[false, false, false, false, false, false, false, false, false, false, false] (by kernel_rfl) rfl rfl ⟨(blk_cell Xa.out 0).trans rfl, (blk_cell Xa.out 1).trans rfl, (blk_cell Xa.out 2).trans rfl⟩ (fun hHeld => ?_); refine with_tabW section_Reverse.tab3 section_Reverse.bits3 (fun HT_ HW_ => ?_)
    generalize wc.drew = w59 at Xa Xc HB hHeld ⊢
    refine pure_ (i := 0) (N := some 22) (v := ?_) (a' := ?_) #[true, false, false, false, false, false, false, false, false, false, false] rfl rfl (any_of HT_.out (by kernel_rfl)) (fun _ _ _ h => h) (Or.inl ⟨by rfl, ?_⟩) ?_ ?_
    rotate_left
    · intro w'; go_simp; with_reducible rfl
    rotate_left
    · simp only [Act.put, List.setIfInBounds_toArray, List.set_cons_zero, List.set_cons_succ, i64_w, i32_w]; rfl
    refine pure_ (i := 2) (N := some 24) (v := ?_) (a' := ?_) #[true, false, true, false, false, false, false, false, false, false, false] rfl rfl (any_of HT_.out (by kernel_rfl)) (fun _ _ _ h => h) (Or.inl ⟨by rfl, ?_⟩) ?_ ?_
    rotate_left
    · intro w'; go_simp; with_reducible rfl
    rotate_left
    · simp only [Act.put, List.setIfInBounds_toArray, List.set_cons_zero, List.set_cons_succ, i64_w, i32_w]; rfl
    refine pure_ (i := 5) (N := some 27) (v := ?_) (a' := ?_) #[true, false, true, false, false, true, false, false, false, false, false] rfl rfl (any_of HT_.out (by kernel_rfl)) (fun _ _ _ h => h) (Or.inl ⟨by rfl, ?_⟩) ?_ ?_
    rotate_left
    · intro w'; go_simp; with_reducible rfl
    rotate_left
    · simp only [Act.put, List.setIfInBounds_toArray, List.set_cons_zero, List.set_cons_succ, i64_w, i32_w]; rfl
    refine take_ (i := 1) (N := some 23) (v := ?_) (a' := ?_) #[true, true, true, false, false, true, false, false, false, false, false] rfl rfl (take_ofW HT_.out HW_.out (by kernel_rfl)) (fun _ _ _ h => h) (Or.inl ⟨by rfl, ?_⟩) hHeld ?_ ?_
    rotate_left
    · rintro w' ⟨s0, s1, s2⟩
      go_simp
      with_reducible rfl
    rotate_left
    · simp only [Act.put, List.setIfInBounds_toArray, List.set_cons_zero, List.set_cons_succ, i64_w, i32_w]; rfl
    refine take_ (i := 3) (N := some 25) (v := ?_) (a' := ?_) #[true, true, true, true, false, true, false, false, false, false, false] rfl rfl (take_ofW HT_.out HW_.out (by kernel_rfl)) (fun _ _ _ h => h) (Or.inl ⟨by rfl, ?_⟩) hHeld ?_ ?_
    rotate_left
    · rintro w' ⟨s0, s1, s2⟩
      go_simp
      with_reducible rfl
    rotate_left
    · simp only [Act.put, List.setIfInBounds_toArray, List.set_cons_zero, List.set_cons_succ, i64_w, i32_w]; rfl
    refine take_ (i := 6) (N := some 28) (v := ?_) (a' := ?_) #[true, true, true, true, false, true, true, false, false, false, false] rfl rfl (take_ofW HT_.out HW_.out (by kernel_rfl)) (fun _ _ _ h => h) (Or.inl ⟨by rfl, ?_⟩) hHeld ?_ ?_
    rotate_left
    · rintro w' ⟨s0, s1, s2⟩
      go_simp
      with_reducible rfl
    rotate_left
    · simp only [Act.put, List.setIfInBounds_toArray, List.set_cons_zero, List.set_cons_succ, i64_w, i32_w]; rfl
    refine join_ (σ := Value × Value × Nat) 1 #[true, true, true, true, true, true, true, true, true, true, false] (fun s_ => [(26, s_.1), (29, s_.2.1), (6, .pointer (some ⟨s_.2.2, 0, none⟩)), (30, .agg #[.int .i64 a0_0, s_.1, s_.2.1])]) (fun s_ w' => (w'.cell? ⟨Xe, 0, none⟩ = some (.int .i64 a0_0) ∧ w'.cell? ⟨Xe, 1, none⟩ = some (.slice Xu Xg.length Xs) ∧ w'.cell? ⟨Xe, 2, none⟩ = some (.slice Xv Xk.length Xt)) ∧ (Kd.R (Kd.int .i64) 3 w' w.heap.size (fun k_ => some k_ ≠ (s_.2.1 : Value).ownBlock) s_.1 Xp) ∧ (Kd.R (Kd.int .i64) 3 w' w.heap.size (fun k_ => some k_ ≠ (s_.1 : Value).ownBlock) s_.2.1 Xh) ∧ (w'.heap[Xe]? = some (.cells #[.int .i64 a0_0, .slice Xu Xg.length Xs, .slice Xv Xk.length Xt] 31 (0, 0))) ∧ (w'.heap[Xi]? = some (.cells #[.int .i64 0, .slice none 0 0, .slice none 0 0] 31 (0, 0))) ∧ (w'.heap[s_.2.2]? = some (.cells #[.int .i64 0, .slice none 0 0, .slice none 0 0] 31 (0, 0))) ∧ (w.heap.size ≤ s_.2.2) ∧ (w.heap.size ≤ s_.2.2) ∧ (Xe ≠ s_.2.2) ∧ (s_.2.2 ≠ Xe) ∧ (Xi ≠ s_.2.2) ∧ (s_.2.2 ≠ Xi) ∧ (Below w.heap.size w w')) ?_ ?_
    rotate_left
    · intro hCont
      refine two_ (i := 4) (j := 9) (Ni := some 26) (Nj := some 6) #[true, true, true, true, true, true, true, false, false, false, false] #[true, true, true, true, false, true, true, false, false, true, false] rfl rfl rfl rfl (two_of HT_.out (by kernel_rfl)) (by decide) (by decide) (fun K hK => ?_) (fun K hK => ?_)
      · skip
        refine goes_ Try.func53 (by kernel_rfl) rfl #[.slice Xu Xg.length Xs] (by rfl) rfl rfl (by (try simp only [List.map_toArray, List.map_cons, List.map_nil]); first | done | rfl | (simp only [List.length_drop, List.length_take]; rfl)) ?_
        with_reducible refine (slices_Clone.calls _ _ Xg Xp _ ?side1 ?side2 Y0.out).mono ?_
        (case side1 => repeat (first | exact (Kd.C_below XO.out HB.out) | (with_reducible refine Kd.C_alloc ?_ _) | (with_reducible refine Kd.C_drewN ?_ _) | (with_reducible refine Kd.C_drew ?_)))
        (case side2 => exact XS.out)
        rintro e w60 ⟨v472, rfl, ho0, hb⟩
        refine ⟨_, rfl, ?_⟩
        have Xx := Aside0.mk (Kd.R_lower ho0 (below_size (by repeat (first | (with_reducible first | exact HB.out | apply upS | refine below_set ?_ Xn.out | refine below_set ?_ Xo.out) | exact HB.out))))
        have Xy := Aside0.mk (blk_below (g := Xe) (o := .cells #[.int .i64 a0_0, .slice Xu Xg.length Xs, .slice Xv Xk.length Xt] 31 (0, 0)) (by exact upB Xa.out) hb)
        have Xz := Aside0.mk (blk_below (g := Xi) (o := .cells #[.int .i64 0, .slice none 0 0, .slice none 0 0] 31 (0, 0)) (by exact upB Xc.out) hb)
        have XA := Aside0.mk (below_step (by repeat (first | (with_reducible first | exact HB.out | apply upS | refine below_set ?_ Xn.out | refine below_set ?_ Xo.out) | exact HB.out)) hb)
        clear Xa
        clear Xc
        clear HB
        have Xj := Xx
        have Xa := Xy
        have Xc := Xz
        have HB := XA
        clear Xx Xy Xz XA
        (try clear hb)
        (try clear Yb)
        (try clear hk)
        (try clear hi)
        (try clear ho0)
        refine hK.out _ _ ⟨(blk_cell Xa.out 0).trans rfl, (blk_cell Xa.out 1).trans rfl, (blk_cell Xa.out 2).trans rfl⟩ (fun hHeld => ?_)
        clear hK K
        refine norm_ (a' := ?_) ?_ ?_
        rotate_left
        · show Act.put _ (some 26) _ = _
          simp only [Act.put, List.setIfInBounds_toArray, List.set_cons_zero, List.set_cons_succ, i64_w, i32_w]
          rfl
        refine two_ (i := 7) (j := 9) (Ni := some 29) (Nj := some 6) #[true, true, true, true, true, true, true, true, false, false, false] #[true, true, true, true, true, true, true, false, false, true, false] rfl rfl rfl rfl (two_of HT_.out (by kernel_rfl)) (by decide) (by decide) (fun K hK => ?_) (fun K hK => ?_)
        · skip
          refine goes_ Try.func53 (by kernel_rfl) rfl #[.slice Xv Xk.length Xt] (by rfl) rfl rfl (by (try simp only [List.map_toArray, List.map_cons, List.map_nil]); first | done | rfl | (simp only [List.length_drop, List.length_take]; rfl)) ?_
          with_reducible refine (slices_Clone.calls _ _ Xk Xh _ ?side1 ?side2 YL.out).mono ?_
          (case side1 => repeat (first | exact (Kd.C_below XP.out HB.out) | (with_reducible refine Kd.C_alloc ?_ _) | (with_reducible refine Kd.C_drewN ?_ _) | (with_reducible refine Kd.C_drew ?_)))
          (case side2 => exact XT.out)
          rintro e w61 ⟨v475, rfl, ho0, hb⟩
          refine ⟨_, rfl, ?_⟩
          have Xx := Aside0.mk (Kd.R_elder' (by (with_reducible repeat apply upG); exact Xj.out) (Kd.R_base ho0) hb)
          have Xy := Aside0.mk (Kd.R_lower (Kd.R_new' ho0 (Kd.R_lt (by (with_reducible repeat apply upG); exact Xj.out))) (below_size (by repeat (first | (with_reducible first | exact HB.out | apply upS | refine below_set ?_ Xn.out | refine below_set ?_ Xo.out) | exact HB.out))))
          have Xz := Aside0.mk (blk_below (g := Xe) (o := .cells #[.int .i64 a0_0, .slice Xu Xg.length Xs, .slice Xv Xk.length Xt] 31 (0, 0)) (by exact upB Xa.out) hb)
          have XA := Aside0.mk (blk_below (g := Xi) (o := .cells #[.int .i64 0, .slice none 0 0, .slice none 0 0] 31 (0, 0)) (by exact upB Xc.out) hb)
          have XB := Aside0.mk (below_step (by repeat (first | (with_reducible first | exact HB.out | apply upS | refine below_set ?_ Xn.out | refine below_set ?_ Xo.out) | exact HB.out)) hb)
          clear Xj
          clear Xa
          clear Xc
          clear HB
          have Xj := Xx
          have Xl := Xy
          have Xa := Xz
          have Xc := XA
          have HB := XB
          clear Xx Xy Xz XA XB
          (try clear hb)
          (try clear Yb)
          (try clear hk)
          (try clear hi)
          (try clear ho0)
          obtain ⟨ZI, ZJ, eo62⟩ := Kd.R_slice Xl.out
          (first | subst eo62 | (injection eo62 with f1_ f2_ f3_; have f4_ := f1_.symm; have f5_ := f3_.symm; clear f1_ f2_ f3_; subst f4_; subst f5_))
          obtain ⟨Yc, Yd, eo63⟩ := Kd.R_slice Xj.out
          (first | subst eo63 | (injection eo63 with f1_ f2_ f3_; have f4_ := f1_.symm; have f5_ := f3_.symm; clear f1_ f2_ f3_; subst f4_; subst f5_))
          refine hK.out _ _ ⟨(blk_cell Xa.out 0).trans rfl, (blk_cell Xa.out 1).trans rfl, (blk_cell Xa.out 2).trans rfl⟩ (fun hHeld => ?_)
          clear hK K
          refine norm_ (a' := ?_) ?_ ?_
          rotate_left
          · show Act.put _ (some 29) _ = _
            simp only [Act.put, List.setIfInBounds_toArray, List.set_cons_zero, List.set_cons_succ, i64_w, i32_w]
            rfl
          refine pure_ (i := 8) (N := some 30) (v := ?_) (a' := ?_) #[true, true, true, true, true, true, true, true, true, false, false] rfl rfl (any_of HT_.out (by kernel_rfl)) (fun _ _ _ h => h) (Or.inl ⟨by rfl, ?_⟩) ?_ ?_
          rotate_left
          · intro w'; go_simp; with_reducible rfl
          rotate_left
          · simp only [Act.put, List.setIfInBounds_toArray, List.set_cons_zero, List.set_cons_succ, i64_w, i32_w]; rfl
          refine one_ (i := 9) (N := some 6) #[true, true, true, true, true, true, true, true, true, true, false] rfl rfl (one_of HT_.out (by kernel_rfl)) (by decide) (fun K hK => ?_)
          refine box_step ?hg (N := 6) ?hd (cs := #[.int .i64 0, .slice none 0 0, .slice none 0 0]) (t := 31) ?hr ?_; (case hd => rfl); (case hg => rfl); (case hr => first | (go_simp; done) | (go_simp; rfl))
          intro Xb hg w64 hbox hb
          have Xx := Aside0.mk (Kd.R_below (by (with_reducible repeat apply upG); exact Xj.out) hb)
          have Xy := Aside0.mk (Kd.R_below (by (with_reducible repeat apply upG); exact Xl.out) hb)
          have Xz := Aside0.mk (blk_below (g := Xe) (o := .cells #[.int .i64 a0_0, .slice Xu Xg.length Xs, .slice Xv Xk.length Xt] 31 (0, 0)) (by exact upB Xa.out) hb)
          have XA := Aside0.mk (blk_below (g := Xi) (o := .cells #[.int .i64 0, .slice none 0 0, .slice none 0 0] 31 (0, 0)) (by exact upB Xc.out) hb)
          have XB := Aside0.mk (below_step (by repeat (first | (with_reducible first | exact HB.out | apply upS | refine below_set ?_ Xn.out | refine below_set ?_ Xo.out) | exact HB.out)) hb)
          have XC := Aside0.mk (hbox)
          have XW := Aside0.mk ((by rw [hg]; exact (below_size (by repeat (first | (with_reducible first | exact HB.out | apply upS | refine below_set ?_ Xn.out | refine below_set ?_ Xo.out) | exact HB.out))) : w.heap.size ≤ Xb))
          have XY := Aside0.mk ((by rw [hg]; exact (below_size (by repeat (first | (with_reducible first | exact HB.out | apply upS | refine below_set ?_ Xn.out | refine below_set ?_ Xo.out) | exact HB.out))) : w.heap.size ≤ Xb))
          have XZ := Aside0.mk ((by rw [hg]; exact Nat.ne_of_lt (blk_lt (g := Xe) (o := .cells #[.int .i64 a0_0, .slice Xu Xg.length Xs, .slice Xv Xk.length Xt] 31 (0, 0)) (by exact upB Xa.out)) : Xe ≠ Xb))
          have X0 := Aside0.mk ((by rw [hg]; exact Nat.ne_of_gt (blk_lt (g := Xe) (o := .cells #[.int .i64 a0_0, .slice Xu Xg.length Xs, .slice Xv Xk.length Xt] 31 (0, 0)) (by exact upB Xa.out)) : Xb ≠ Xe))
          have XN := Aside0.mk ((by rw [hg]; exact Nat.ne_of_lt (blk_lt (g := Xi) (o := .cells #[.int .i64 0, .slice none 0 0, .slice none 0 0] 31 (0, 0)) (by exact upB Xc.out)) : Xi ≠ Xb))
          have X1 := Aside0.mk ((by rw [hg]; exact Nat.ne_of_gt (blk_lt (g := Xi) (o := .cells #[.int .i64 0, .slice none 0 0, .slice none 0 0] 31 (0, 0)) (by exact upB Xc.out)) : Xb ≠ Xi))
          clear Xj
          clear Xl
          clear Xa
          clear Xc
          clear HB
          have Xj := Xx
          have Xl := Xy
          have Xa := Xz
          have Xc := XA
          have HB := XB
          have Xf := XC
          have XL := XW
          have Xw := XY
          have Xd := XZ
          have Xq := X0
          have Xm := XN
          have Xr := X1
          clear Xx Xy Xz XA XB XC XW XY XZ X0 XN X1
          clear hb hbox hg
          refine hK.out _ _ ⟨(blk_cell Xa.out 0).trans rfl, (blk_cell Xa.out 1).trans rfl, (blk_cell Xa.out 2).trans rfl⟩ (fun hHeld => ?_)
          clear hK K
          refine norm_ (a' := ?_) ?_ ?_
          rotate_left
          · show Act.put _ (some 6) _ = _
            simp only [Act.put, List.setIfInBounds_toArray, List.set_cons_zero, List.set_cons_succ, i64_w, i32_w]
            rfl
          exact norm_ (by simp only [putAll, Act.put, List.setIfInBounds_toArray, List.set_cons_zero, List.set_cons_succ]) (hCont (.slice Yc Xp.length Yd, .slice ZI Xh.length ZJ, Xb) _ ⟨hHeld, (by (with_reducible repeat apply upG); exact Kd.R_mono Xj.out (fun _ hk => hk.2)), (by (with_reducible repeat apply upG); exact Kd.R_mono Xl.out (fun _ hk => hk.2)), (by exact upB Xa.out), (by exact upB Xc.out), (by exact upB Xf.out), XL.out, Xw.out, Xd.out, Xq.out, Xm.out, Xr.out, (by repeat (first | (with_reducible first | exact HB.out | apply upS | refine below_set ?_ Xn.out | refine below_set ?_ Xo.out | refine below_set ?_ Xw.out) | exact HB.out))⟩)
        skip
        refine box_step ?hg (N := 6) ?hd (cs := #[.int .i64 0, .slice none 0 0, .slice none 0 0]) (t := 31) ?hr ?_; (case hd => rfl); (case hg => rfl); (case hr => first | (go_simp; done) | (go_simp; rfl))
        intro Xb hg w61 hbox hb
        have Xx := Aside0.mk (Kd.R_below (by (with_reducible repeat apply upG); exact Xj.out) hb)
        have Xy := Aside0.mk (blk_below (g := Xe) (o := .cells #[.int .i64 a0_0, .slice Xu Xg.length Xs, .slice Xv Xk.length Xt] 31 (0, 0)) (by exact upB Xa.out) hb)
        have Xz := Aside0.mk (blk_below (g := Xi) (o := .cells #[.int .i64 0, .slice none 0 0, .slice none 0 0] 31 (0, 0)) (by exact upB Xc.out) hb)
        have XA := Aside0.mk (below_step (by repeat (first | (with_reducible first | exact HB.out | apply upS | refine below_set ?_ Xn.out | refine below_set ?_ Xo.out) | exact HB.out)) hb)
        have XB := Aside0.mk (hbox)
        have XC := Aside0.mk ((by rw [hg]; exact (below_size (by repeat (first | (with_reducible first | exact HB.out | apply upS | refine below_set ?_ Xn.out | refine below_set ?_ Xo.out) | exact HB.out))) : w.heap.size ≤ Xb))
        have XW := Aside0.mk ((by rw [hg]; exact (below_size (by repeat (first | (with_reducible first | exact HB.out | apply upS | refine below_set ?_ Xn.out | refine below_set ?_ Xo.out) | exact HB.out))) : w.heap.size ≤ Xb))
        have XY := Aside0.mk ((by rw [hg]; exact Nat.ne_of_lt (blk_lt (g := Xe) (o := .cells #[.int .i64 a0_0, .slice Xu Xg.length Xs, .slice Xv Xk.length Xt] 31 (0, 0)) (by exact upB Xa.out)) : Xe ≠ Xb))
        have XZ := Aside0.mk ((by rw [hg]; exact Nat.ne_of_gt (blk_lt (g := Xe) (o := .cells #[.int .i64 a0_0, .slice Xu Xg.length Xs, .slice Xv Xk.length Xt] 31 (0, 0)) (by exact upB Xa.out)) : Xb ≠ Xe))
        have X0 := Aside0.mk ((by rw [hg]; exact Nat.ne_of_lt (blk_lt (g := Xi) (o := .cells #[.int .i64 0, .slice none 0 0, .slice none 0 0] 31 (0, 0)) (by exact upB Xc.out)) : Xi ≠ Xb))
        have XN := Aside0.mk ((by rw [hg]; exact Nat.ne_of_gt (blk_lt (g := Xi) (o := .cells #[.int .i64 0, .slice none 0 0, .slice none 0 0] 31 (0, 0)) (by exact upB Xc.out)) : Xb ≠ Xi))
        clear Xj
        clear Xa
        clear Xc
        clear HB
        have Xj := Xx
        have Xa := Xy
        have Xc := Xz
        have HB := XA
        have Xf := XB
        have XL := XC
        have Xw := XW
        have Xd := XY
        have Xq := XZ
        have Xm := X0
        have Xr := XN
        clear Xx Xy Xz XA XB XC XW XY XZ X0 XN
        clear hb hbox hg
        refine hK.out _ _ ⟨(blk_cell Xa.out 0).trans rfl, (blk_cell Xa.out 1).trans rfl, (blk_cell Xa.out 2).trans rfl⟩ (fun hHeld => ?_)
        clear hK K
        refine norm_ (a' := ?_) ?_ ?_
        rotate_left
        · show Act.put _ (some 6) _ = _
          simp only [Act.put, List.setIfInBounds_toArray, List.set_cons_zero, List.set_cons_succ, i64_w, i32_w]
          rfl
        refine one_ (i := 7) (N := some 29) #[true, true, true, true, true, true, true, true, false, true, false] rfl rfl (one_of HT_.out (by kernel_rfl)) (by decide) (fun K hK => ?_)
        refine goes_ Try.func53 (by kernel_rfl) rfl #[.slice Xv Xk.length Xt] (by rfl) rfl rfl (by (try simp only [List.map_toArray, List.map_cons, List.map_nil]); first | done | rfl | (simp only [List.length_drop, List.length_take]; rfl)) ?_
        with_reducible refine (slices_Clone.calls _ _ Xk Xh _ ?side1 ?side2 YL.out).mono ?_
        (case side1 => repeat (first | exact (Kd.C_below XP.out HB.out) | (with_reducible refine Kd.C_alloc ?_ _) | (with_reducible refine Kd.C_drewN ?_ _) | (with_reducible refine Kd.C_drew ?_)))
        (case side2 => exact XT.out)
        rintro e w62 ⟨v475, rfl, ho0, hb⟩
        refine ⟨_, rfl, ?_⟩
        have Xx := Aside0.mk (Kd.R_elder' (by (with_reducible repeat apply upG); exact Xj.out) (Kd.R_base ho0) hb)
        have Xy := Aside0.mk (Kd.R_lower (Kd.R_new' ho0 (Kd.R_lt (by (with_reducible repeat apply upG); exact Xj.out))) (below_size (by repeat (first | (with_reducible first | exact HB.out | apply upS | refine below_set ?_ Xn.out | refine below_set ?_ Xo.out | refine below_set ?_ Xw.out) | exact HB.out))))
        have Xz := Aside0.mk (blk_below (g := Xe) (o := .cells #[.int .i64 a0_0, .slice Xu Xg.length Xs, .slice Xv Xk.length Xt] 31 (0, 0)) (by exact upB Xa.out) hb)
        have XA := Aside0.mk (blk_below (g := Xi) (o := .cells #[.int .i64 0, .slice none 0 0, .slice none 0 0] 31 (0, 0)) (by exact upB Xc.out) hb)
        have XB := Aside0.mk (blk_below (g := Xb) (o := .cells #[.int .i64 0, .slice none 0 0, .slice none 0 0] 31 (0, 0)) (by exact upB Xf.out) hb)
        have XC := Aside0.mk (below_step (by repeat (first | (with_reducible first | exact HB.out | apply upS | refine below_set ?_ Xn.out | refine below_set ?_ Xo.out | refine below_set ?_ Xw.out) | exact HB.out)) hb)
        clear Xj
        clear Xa
        clear Xc
        clear Xf
        clear HB
        have Xj := Xx
        have Xl := Xy
        have Xa := Xz
        have Xc := XA
        have Xf := XB
        have HB := XC
        clear Xx Xy Xz XA XB XC
        (try clear hb)
        (try clear Yb)
        (try clear hk)
        (try clear hi)
        (try clear ho0)
        obtain ⟨Yc, Yd, eo63⟩ := Kd.R_slice Xl.out
        (first | subst eo63 | (injection eo63 with f1_ f2_ f3_; have f4_ := f1_.symm; have f5_ := f3_.symm; clear f1_ f2_ f3_; subst f4_; subst f5_))
        obtain ⟨YF, YG, eo64⟩ := Kd.R_slice Xj.out
        (first | subst eo64 | (injection eo64 with f1_ f2_ f3_; have f4_ := f1_.symm; have f5_ := f3_.symm; clear f1_ f2_ f3_; subst f4_; subst f5_))
        refine hK.out _ _ ⟨(blk_cell Xa.out 0).trans rfl, (blk_cell Xa.out 1).trans rfl, (blk_cell Xa.out 2).trans rfl⟩ (fun hHeld => ?_)
        clear hK K
        refine norm_ (a' := ?_) ?_ ?_
        rotate_left
        · show Act.put _ (some 29) _ = _
          simp only [Act.put, List.setIfInBounds_toArray, List.set_cons_zero, List.set_cons_succ, i64_w, i32_w]
          rfl
        refine pure_ (i := 8) (N := some 30) (v := ?_) (a' := ?_) #[true, true, true, true, true, true, true, true, true, true, false] rfl rfl (any_of HT_.out (by kernel_rfl)) (fun _ _ _ h => h) (Or.inl ⟨by rfl, ?_⟩) ?_ ?_
        rotate_left
        · intro w'; go_simp; with_reducible rfl
        rotate_left
        · simp only [Act.put, List.setIfInBounds_toArray, List.set_cons_zero, List.set_cons_succ, i64_w, i32_w]; rfl
        exact norm_ (by simp only [putAll, Act.put, List.setIfInBounds_toArray, List.set_cons_zero, List.set_cons_succ]) (hCont (.slice YF Xp.length YG, .slice Yc Xh.length Yd, Xb) _ ⟨hHeld, (by (with_reducible repeat apply upG); exact Kd.R_mono Xj.out (fun _ hk => hk.2)), (by (with_reducible repeat apply upG); exact Kd.R_mono Xl.out (fun _ hk => hk.2)), (by exact upB Xa.out), (by exact upB Xc.out), (by exact upB Xf.out), XL.out, Xw.out, Xd.out, Xq.out, Xm.out, Xr.out, (by repeat (first | (with_reducible first | exact HB.out | apply upS | refine below_set ?_ Xn.out | refine below_set ?_ Xo.out | refine below_set ?_ Xw.out) | exact HB.out))⟩)
      skip
      refine box_step ?hg (N := 6) ?hd (cs := #[.int .i64 0, .slice none 0 0, .slice none 0 0]) (t := 31) ?hr ?_; (case hd => rfl); (case hg => rfl); (case hr => first | (go_simp; done) | (go_simp; rfl))
      intro Xb hg w60 hbox hb
      have Xx := Aside0.mk (blk_below (g := Xe) (o := .cells #[.int .i64 a0_0, .slice Xu Xg.length Xs, .slice Xv Xk.length Xt] 31 (0, 0)) (by exact upB Xa.out) hb)
      have Xy := Aside0.mk (blk_below (g := Xi) (o := .cells #[.int .i64 0, .slice none 0 0, .slice none 0 0] 31 (0, 0)) (by exact upB Xc.out) hb)
      have Xz := Aside0.mk (below_step (by repeat (first | (with_reducible first | exact HB.out | apply upS | refine below_set ?_ Xn.out | refine below_set ?_ Xo.out) | exact HB.out)) hb)
      have XA := Aside0.mk (hbox)
      have XB := Aside0.mk ((by rw [hg]; exact (below_size (by repeat (first | (with_reducible first | exact HB.out | apply upS | refine below_set ?_ Xn.out | refine below_set ?_ Xo.out) | exact HB.out))) : w.heap.size ≤ Xb))
      have XC := Aside0.mk ((by rw [hg]; exact (below_size (by repeat (first | (with_reducible first | exact HB.out | apply upS | refine below_set ?_ Xn.out | refine below_set ?_ Xo.out) | exact HB.out))) : w.heap.size ≤ Xb))
      have XW := Aside0.mk ((by rw [hg]; exact Nat.ne_of_lt (blk_lt (g := Xe) (o := .cells #[.int .i64 a0_0, .slice Xu Xg.length Xs, .slice Xv Xk.length Xt] 31 (0, 0)) (by exact upB Xa.out)) : Xe ≠ Xb))
      have XY := Aside0.mk ((by rw [hg]; exact Nat.ne_of_gt (blk_lt (g := Xe) (o := .cells #[.int .i64 a0_0, .slice Xu Xg.length Xs, .slice Xv Xk.length Xt] 31 (0, 0)) (by exact upB Xa.out)) : Xb ≠ Xe))
      have XZ := Aside0.mk ((by rw [hg]; exact Nat.ne_of_lt (blk_lt (g := Xi) (o := .cells #[.int .i64 0, .slice none 0 0, .slice none 0 0] 31 (0, 0)) (by exact upB Xc.out)) : Xi ≠ Xb))
      have X0 := Aside0.mk ((by rw [hg]; exact Nat.ne_of_gt (blk_lt (g := Xi) (o := .cells #[.int .i64 0, .slice none 0 0, .slice none 0 0] 31 (0, 0)) (by exact upB Xc.out)) : Xb ≠ Xi))
      clear Xa
      clear Xc
      clear HB
      have Xa := Xx
      have Xc := Xy
      have HB := Xz
      have Xf := XA
      have XL := XB
      have Xw := XC
      have Xd := XW
      have Xq := XY
      have Xm := XZ
      have Xr := X0
      clear Xx Xy Xz XA XB XC XW XY XZ X0
      clear hb hbox hg
      refine hK.out _ _ ⟨(blk_cell Xa.out 0).trans rfl, (blk_cell Xa.out 1).trans rfl, (blk_cell Xa.out 2).trans rfl⟩ (fun hHeld => ?_)
      clear hK K
      refine norm_ (a' := ?_) ?_ ?_
      rotate_left
      · show Act.put _ (some 6) _ = _
        simp only [Act.put, List.setIfInBounds_toArray, List.set_cons_zero, List.set_cons_succ, i64_w, i32_w]
        rfl
      refine one_ (i := 4) (N := some 26) #[true, true, true, true, true, true, true, false, false, true, false] rfl rfl (one_of HT_.out (by kernel_rfl)) (by decide) (fun K hK => ?_)
      refine goes_ Try.func53 (by kernel_rfl) rfl #[.slice Xu Xg.length Xs] (by rfl) rfl rfl (by (try simp only [List.map_toArray, List.map_cons, List.map_nil]); first | done | rfl | (simp only [List.length_drop, List.length_take]; rfl)) ?_
      with_reducible refine (slices_Clone.calls _ _ Xg Xp _ ?side1 ?side2 Y0.out).mono ?_
      (case side1 => repeat (first | exact (Kd.C_below XO.out HB.out) | (with_reducible refine Kd.C_alloc ?_ _) | (with_reducible refine Kd.C_drewN ?_ _) | (with_reducible refine Kd.C_drew ?_)))
      (case side2 => exact XS.out)
      rintro e w61 ⟨v472, rfl, ho0, hb⟩
      refine ⟨_, rfl, ?_⟩
      have Xx := Aside0.mk (Kd.R_lower ho0 (below_size (by repeat (first | (with_reducible first | exact HB.out | apply upS | refine below_set ?_ Xn.out | refine below_set ?_ Xo.out | refine below_set ?_ Xw.out) | exact HB.out))))
      have Xy := Aside0.mk (blk_below (g := Xe) (o := .cells #[.int .i64 a0_0, .slice Xu Xg.length Xs, .slice Xv Xk.length Xt] 31 (0, 0)) (by exact upB Xa.out) hb)
      have Xz := Aside0.mk (blk_below (g := Xi) (o := .cells #[.int .i64 0, .slice none 0 0, .slice none 0 0] 31 (0, 0)) (by exact upB Xc.out) hb)
      have XA := Aside0.mk (blk_below (g := Xb) (o := .cells #[.int .i64 0, .slice none 0 0, .slice none 0 0] 31 (0, 0)) (by exact upB Xf.out) hb)
      have XB := Aside0.mk (below_step (by repeat (first | (with_reducible first | exact HB.out | apply upS | refine below_set ?_ Xn.out | refine below_set ?_ Xo.out | refine below_set ?_ Xw.out) | exact HB.out)) hb)
      clear Xa
      clear Xc
      clear Xf
      clear HB
      have Xj := Xx
      have Xa := Xy
      have Xc := Xz
      have Xf := XA
      have HB := XB
      clear Xx Xy Xz XA XB
      (try clear hb)
      (try clear Yb)
      (try clear hk)
      (try clear hi)
      (try clear ho0)
      refine hK.out _ _ ⟨(blk_cell Xa.out 0).trans rfl, (blk_cell Xa.out 1).trans rfl, (blk_cell Xa.out 2).trans rfl⟩ (fun hHeld => ?_)
      clear hK K
      refine norm_ (a' := ?_) ?_ ?_
      rotate_left
      · show Act.put _ (some 26) _ = _
        simp only [Act.put, List.setIfInBounds_toArray, List.set_cons_zero, List.set_cons_succ, i64_w, i32_w]
        rfl
      refine one_ (i := 7) (N := some 29) #[true, true, true, true, true, true, true, true, false, true, false] rfl rfl (one_of HT_.out (by kernel_rfl)) (by decide) (fun K hK => ?_)
      refine goes_ Try.func53 (by kernel_rfl) rfl #[.slice Xv Xk.length Xt] (by rfl) rfl rfl (by (try simp only [List.map_toArray, List.map_cons, List.map_nil]); first | done | rfl | (simp only [List.length_drop, List.length_take]; rfl)) ?_
      with_reducible refine (slices_Clone.calls _ _ Xk Xh _ ?side1 ?side2 YL.out).mono ?_
      (case side1 => repeat (first | exact (Kd.C_below XP.out HB.out) | (with_reducible refine Kd.C_alloc ?_ _) | (with_reducible refine Kd.C_drewN ?_ _) | (with_reducible refine Kd.C_drew ?_)))
      (case side2 => exact XT.out)
      rintro e w62 ⟨v475, rfl, ho0, hb⟩
      refine ⟨_, rfl, ?_⟩
      have Xx := Aside0.mk (Kd.R_elder' (by (with_reducible repeat apply upG); exact Xj.out) (Kd.R_base ho0) hb)
      have Xy := Aside0.mk (Kd.R_lower (Kd.R_new' ho0 (Kd.R_lt (by (with_reducible repeat apply upG); exact Xj.out))) (below_size (by repeat (first | (with_reducible first | exact HB.out | apply upS | refine below_set ?_ Xn.out | refine below_set ?_ Xo.out | refine below_set ?_ Xw.out) | exact HB.out))))
      have Xz := Aside0.mk (blk_below (g := Xe) (o := .cells #[.int .i64 a0_0, .slice Xu Xg.length Xs, .slice Xv Xk.length Xt] 31 (0, 0)) (by exact upB Xa.out) hb)
      have XA := Aside0.mk (blk_below (g := Xi) (o := .cells #[.int .i64 0, .slice none 0 0, .slice none 0 0] 31 (0, 0)) (by exact upB Xc.out) hb)
      have XB := Aside0.mk (blk_below (g := Xb) (o := .cells #[.int .i64 0, .slice none 0 0, .slice none 0 0] 31 (0, 0)) (by exact upB Xf.out) hb)
      have XC := Aside0.mk (below_step (by repeat (first | (with_reducible first | exact HB.out | apply upS | refine below_set ?_ Xn.out | refine below_set ?_ Xo.out | refine below_set ?_ Xw.out) | exact HB.out)) hb)
      clear Xj
      clear Xa
      clear Xc
      clear Xf
      clear HB
      have Xj := Xx
      have Xl := Xy
      have Xa := Xz
      have Xc := XA
      have Xf := XB
      have HB := XC
      clear Xx Xy Xz XA XB XC
      (try clear hb)
      (try clear Yb)
      (try clear hk)
      (try clear hi)
      (try clear ho0)
      obtain ⟨Yc, Yd, eo63⟩ := Kd.R_slice Xl.out
      (first | subst eo63 | (injection eo63 with f1_ f2_ f3_; have f4_ := f1_.symm; have f5_ := f3_.symm; clear f1_ f2_ f3_; subst f4_; subst f5_))
      obtain ⟨YF, YG, eo64⟩ := Kd.R_slice Xj.out
      (first | subst eo64 | (injection eo64 with f1_ f2_ f3_; have f4_ := f1_.symm; have f5_ := f3_.symm; clear f1_ f2_ f3_; subst f4_; subst f5_))
      refine hK.out _ _ ⟨(blk_cell Xa.out 0).trans rfl, (blk_cell Xa.out 1).trans rfl, (blk_cell Xa.out 2).trans rfl⟩ (fun hHeld => ?_)
      clear hK K
      refine norm_ (a' := ?_) ?_ ?_
      rotate_left
      · show Act.put _ (some 29) _ = _
        simp only [Act.put, List.setIfInBounds_toArray, List.set_cons_zero, List.set_cons_succ, i64_w, i32_w]
        rfl
      refine pure_ (i := 8) (N := some 30) (v := ?_) (a' := ?_) #[true, true, true, true, true, true, true, true, true, true, false] rfl rfl (any_of HT_.out (by kernel_rfl)) (fun _ _ _ h => h) (Or.inl ⟨by rfl, ?_⟩) ?_ ?_
      rotate_left
      · intro w'; go_simp; with_reducible rfl
      rotate_left
      · simp only [Act.put, List.setIfInBounds_toArray, List.set_cons_zero, List.set_cons_succ, i64_w, i32_w]; rfl
      exact norm_ (by simp only [putAll, Act.put, List.setIfInBounds_toArray, List.set_cons_zero, List.set_cons_succ]) (hCont (.slice YF Xp.length YG, .slice Yc Xh.length Yd, Xb) _ ⟨hHeld, (by (with_reducible repeat apply upG); exact Kd.R_mono Xj.out (fun _ hk => hk.2)), (by (with_reducible repeat apply upG); exact Kd.R_mono Xl.out (fun _ hk => hk.2)), (by exact upB Xa.out), (by exact upB Xc.out), (by exact upB Xf.out), XL.out, Xw.out, Xd.out, Xq.out, Xm.out, Xr.out, (by repeat (first | (with_reducible first | exact HB.out | apply upS | refine below_set ?_ Xn.out | refine below_set ?_ Xo.out | refine below_set ?_ Xw.out) | exact HB.out))⟩)
    rintro ⟨v472, v475, Xb⟩ w65 ⟨hS_, h0_, h1_, h2_, h3_, h4_, h5_, h6_, h7_, h8_, h9_, h10_, h11_⟩
    have Xx : Aside0 (Kd.R (Kd.int .i64) 3 w65 w.heap.size (fun k_ => some k_ ≠ (v475 : Value).ownBlock) v472 Xp) := ⟨h0_⟩
    have Xy : Aside0 (Kd.R (Kd.int .i64) 3 w65 w.heap.size (fun k_ => some k_ ≠ (v472 : Value).ownBlock) v475 Xh) := ⟨h1_⟩
    have Xz : Aside0 (w65.heap[Xe]? = some (.cells #[.int .i64 a0_0, .slice Xu Xg.length Xs, .slice Xv Xk.length Xt] 31 (0, 0))) := ⟨h2_⟩
    have XA : Aside0 (w65.heap[Xi]? = some (.cells #[.int .i64 0, .slice none 0 0, .slice none 0 0] 31 (0, 0))) := ⟨h3_⟩
    have XB : Aside0 (w65.heap[Xb]? = some (.cells #[.int .i64 0, .slice none 0 0, .slice none 0 0] 31 (0, 0))) := ⟨h4_⟩
    have XC : Aside0 (w.heap.size ≤ Xb) := ⟨h5_⟩
    have XW : Aside0 (w.heap.size ≤ Xb) := ⟨h6_⟩
    have XY : Aside0 (Xe ≠ Xb) := ⟨h7_⟩
    have XZ : Aside0 (Xb ≠ Xe) := ⟨h8_⟩
    have X0 : Aside0 (Xi ≠ Xb) := ⟨h9_⟩
    have XN : Aside0 (Xb ≠ Xi) := ⟨h10_⟩
    have X1 : Aside0 (Below w.heap.size w w65) := ⟨h11_⟩
    clear Xa
    clear Xc
    clear HB
    clear h0_ h1_ h2_ h3_ h4_ h5_ h6_ h7_ h8_ h9_ h10_ h11_
    have Xj := Xx
    have Xl := Xy
    have Xa := Xz
    have Xc := XA
    have Xf := XB
    have XL := XC
    have Xw := XW
    have Xd := XY
    have Xq := XZ
    have Xm := X0
    have Xr := XN
    have HB := X1
    clear Xx Xy Xz XA XB XC XW XY XZ X0 XN X1
    have hHeld : w65.cell? ⟨Xe, 0, none⟩ = some (.int .i64 a0_0) ∧ w65.cell? ⟨Xe, 1, none⟩ = some (.slice Xu Xg.length Xs) ∧ w65.cell? ⟨Xe, 2, none⟩ = some (.slice Xv Xk.length Xt) := hS_
    obtain ⟨XQ, XK, eo66⟩ := Kd.R_slice Xl.out
    (first | subst eo66 | (injection eo66 with f1_ f2_ f3_; have f4_ := f1_.symm; have f5_ := f3_.symm; clear f1_ f2_ f3_; subst f4_; subst f5_))
    obtain ⟨XG, XH, eo67⟩ := Kd.R_slice Xj.out
    (first | subst eo67 | (injection eo67 with f1_ f2_ f3_; have f4_ := f1_.symm; have f5_ := f3_.symm; clear f1_ f2_ f3_; subst f4_; subst f5_))
    refine norm_ (a' := ?_) ?_ ?_
    rotate_left
    · simp only [putAll, Act.put, List.setIfInBounds_toArray, List.set_cons_zero, List.set_cons_succ]
      rfl
    refine one_ (i := 10) (N := none) #[true, true, true, true, true, true, true, true, true, true, true] rfl rfl (one_of HT_.out (by kernel_rfl)) (by decide) (fun K hK => ?_)
    have hs68 : w65.cell? ⟨Xb, 0, none⟩ = some (.int .i64 0) := (blk_cell Xf.out 0).trans rfl
    have hfs68 := blk_frozen Xf.out 0
    have hns68_0 := Xd.out
    have hns68_1 := Xm.out
    have hms68_0 := Xq.out
    have hms68_1 := Xr.out
    have hs69 : w65.cell? ⟨Xb, 1, none⟩ = some (.slice none 0 0) := (blk_cell Xf.out 1).trans rfl
    have hfs69 := blk_frozen Xf.out 1
    have hns69_0 := Xd.out
    have hns69_1 := Xm.out
    have hms69_0 := Xq.out
    have hms69_1 := Xr.out
    have hs70 : w65.cell? ⟨Xb, 2, none⟩ = some (.slice none 0 0) := (blk_cell Xf.out 2).trans rfl
    have hfs70 := blk_frozen Xf.out 2
    have hns70_0 := Xd.out
    have hns70_1 := Xm.out
    have hms70_0 := Xq.out
    have hms70_1 := Xr.out
    refine skip_ (w1 := ?_) (by rfl) rfl ?_ ?_
    rotate_left
    · go_simp
      rfl
    refine hK.out _ _ ⟨((cell_far (p := ⟨Xb, _, none⟩) Xd.out _).trans (((cell_far (p := ⟨Xb, _, none⟩) Xd.out _).trans (((cell_far (p := ⟨Xb, _, none⟩) Xd.out _).trans (hHeld.1)))))), ((cell_far (p := ⟨Xb, _, none⟩) Xd.out _).trans (((cell_far (p := ⟨Xb, _, none⟩) Xd.out _).trans (((cell_far (p := ⟨Xb, _, none⟩) Xd.out _).trans (hHeld.2.1)))))), ((cell_far (p := ⟨Xb, _, none⟩) Xd.out _).trans (((cell_far (p := ⟨Xb, _, none⟩) Xd.out _).trans (((cell_far (p := ⟨Xb, _, none⟩) Xd.out _).trans (hHeld.2.2))))))⟩ (fun hHeld => ?_)
    clear hK K
    refine done_ (done_of HT_.out (by kernel_rfl)) ?_
    have ZY := XI.out
    have ZZ := XJ.out
    have Z0 := Xd.out
    have Z1 := Xq.out
    have Y3 : w65.cell? ⟨Xe, 0, none⟩ = some (.int .i64 a0_0) := (blk_cell Xa.out 0).trans rfl
    have Y4 : w65.cell? ⟨Xe, 1, none⟩ = some (.slice Xu Xg.length Xs) := (blk_cell Xa.out 1).trans rfl
    have Y5 : w65.cell? ⟨Xe, 2, none⟩ = some (.slice Xv Xk.length Xt) := (blk_cell Xa.out 2).trans rfl
    have Y6 := blk_frozen Xa.out 0
    have Y7 := blk_frozen Xa.out 1
    have Y8 := blk_frozen Xa.out 2
    try go_wp2_with (first | ((with_reducible refine gate_callee (f := 46) rfl ?_); refine goesL_ (some 33) rfl rfl Try.func46 (by kernel_rfl) rfl #[.slice Xu Xg.length Xs] rfl (by (try simp only [List.map_toArray, List.map_cons, List.map_nil]); first | done | rfl | (simp only [List.length_drop, List.length_take]; rfl)) ?_; (with_reducible refine (section_size.calls kj2 _ _ Xg XR _ ?side1 ?side2 ZV.out).mono ?_); (case side1 => exact Kd.C_below XO.out (by repeat (first | (with_reducible first | exact HB.out | apply upS | refine below_set ?_ Xn.out | refine below_set ?_ Xo.out | refine below_set ?_ Xw.out) | exact HB.out))); (case side2 => exact XS.out); rintro e w' ⟨rfl, ⟨nd, rfl⟩⟩; refine ⟨_, rfl, ?_⟩))
    have Xx : Aside0 (Kd.R (Kd.int .i64) 3 (((w65.setCell ⟨Xb, 0, none⟩ (.int .i64 a0_0)).setCell ⟨Xb, 1, none⟩ (.slice XG Xp.length XH)).setCell ⟨Xb, 2, none⟩ (.slice XQ Xh.length XK)) w.heap.size (fun k_ => some k_ ≠ (.slice XQ Xh.length XK : Value).ownBlock) (.slice XG Xp.length XH) Xp) := ⟨by (with_reducible repeat apply upG); exact Kd.R_mono (Kd.R_far (p := ⟨Xb, 2, none⟩) (Kd.R_far (p := ⟨Xb, 1, none⟩) (Kd.R_far (p := ⟨Xb, 0, none⟩) (Kd.R_types Xj.out Xf.out (by decide)) (fun _ hk => hk.2) (.int .i64 a0_0)) (fun _ hk => hk.2) (.slice XG Xp.length XH)) (fun _ hk => hk.2) (.slice XQ Xh.length XK)) (fun _ hk => hk.1)⟩
    have Xy : Aside0 (Kd.R (Kd.int .i64) 3 (((w65.setCell ⟨Xb, 0, none⟩ (.int .i64 a0_0)).setCell ⟨Xb, 1, none⟩ (.slice XG Xp.length XH)).setCell ⟨Xb, 2, none⟩ (.slice XQ Xh.length XK)) w.heap.size (fun k_ => some k_ ≠ (.slice XG Xp.length XH : Value).ownBlock) (.slice XQ Xh.length XK) Xh) := ⟨by (with_reducible repeat apply upG); exact Kd.R_mono (Kd.R_far (p := ⟨Xb, 2, none⟩) (Kd.R_far (p := ⟨Xb, 1, none⟩) (Kd.R_far (p := ⟨Xb, 0, none⟩) (Kd.R_types Xl.out Xf.out (by decide)) (fun _ hk => hk.2) (.int .i64 a0_0)) (fun _ hk => hk.2) (.slice XG Xp.length XH)) (fun _ hk => hk.2) (.slice XQ Xh.length XK)) (fun _ hk => hk.1)⟩
    have Xz : Aside0 ((((w65.setCell ⟨Xb, 0, none⟩ (.int .i64 a0_0)).setCell ⟨Xb, 1, none⟩ (.slice XG Xp.length XH)).setCell ⟨Xb, 2, none⟩ (.slice XQ Xh.length XK)).heap[Xe]? = some (.cells #[.int .i64 a0_0, .slice Xu Xg.length Xs, .slice Xv Xk.length Xt] 31 (0, 0))) := ⟨by (with_reducible repeat apply upF); refine blk_far ?_ Xd.out _; (with_reducible repeat apply upF); refine blk_far ?_ Xd.out _; (with_reducible repeat apply upF); refine blk_far ?_ Xd.out _; exact upB Xa.out⟩
    have XA : Aside0 ((((w65.setCell ⟨Xb, 0, none⟩ (.int .i64 a0_0)).setCell ⟨Xb, 1, none⟩ (.slice XG Xp.length XH)).setCell ⟨Xb, 2, none⟩ (.slice XQ Xh.length XK)).heap[Xi]? = some (.cells #[.int .i64 0, .slice none 0 0, .slice none 0 0] 31 (0, 0))) := ⟨by (with_reducible repeat apply upF); refine blk_far ?_ Xm.out _; (with_reducible repeat apply upF); refine blk_far ?_ Xm.out _; (with_reducible repeat apply upF); refine blk_far ?_ Xm.out _; exact upB Xc.out⟩
    have XB : Aside0 ((((w65.setCell ⟨Xb, 0, none⟩ (.int .i64 a0_0)).setCell ⟨Xb, 1, none⟩ (.slice XG Xp.length XH)).setCell ⟨Xb, 2, none⟩ (.slice XQ Xh.length XK)).heap[Xb]? = some (.cells #[.int .i64 a0_0, .slice XG Xp.length XH, .slice XQ Xh.length XK] 31 (0, 0))) := ⟨by (with_reducible repeat apply upF); refine blk_put (cs := #[.int .i64 a0_0, .slice XG Xp.length XH, .slice none 0 0]) ?_ 2 _ rfl; (with_reducible repeat apply upF); refine blk_put (cs := #[.int .i64 a0_0, .slice none 0 0, .slice none 0 0]) ?_ 1 _ rfl; (with_reducible repeat apply upF); refine blk_put (cs := #[.int .i64 0, .slice none 0 0, .slice none 0 0]) ?_ 0 _ rfl; exact upB Xf.out⟩
    have XC : Aside0 (Below w.heap.size w (((w65.setCell ⟨Xb, 0, none⟩ (.int .i64 a0_0)).setCell ⟨Xb, 1, none⟩ (.slice XG Xp.length XH)).setCell ⟨Xb, 2, none⟩ (.slice XQ Xh.length XK))) := ⟨by repeat (first | (with_reducible first | exact HB.out | apply upS | refine below_set ?_ Xn.out | refine below_set ?_ Xo.out | refine below_set ?_ Xw.out) | exact HB.out)⟩
    (try clear Xj)
    (try clear Xl)
    (try clear Xa)
    (try clear Xc)
    (try clear Xf)
    (try clear HB)
    generalize (((w65.setCell ⟨Xb, 0, none⟩ (.int .i64 a0_0)).setCell ⟨Xb, 1, none⟩ (.slice XG Xp.length XH)).setCell ⟨Xb, 2, none⟩ (.slice XQ Xh.length XK)) = w74 at Xx Xy Xz XA XB XC ⊢
    have Xj := Xx
    have Xl := Xy
    have Xa := Xz
    have Xc := XA
    have Xf := XB
    have HB := XC
    clear Xx Xy Xz XA XB XC
    (try (rw [drewN_self w74]; generalize hq_ : World.drewN w74 _ = w74; have Xx : Aside0 (Kd.R (Kd.int .i64) 3 w74 w.heap.size (fun k_ => some k_ ≠ (.slice XQ Xh.length XK : Value).ownBlock) (.slice XG Xp.length XH) Xp) := ⟨by rw [← hq_]; exact (by (with_reducible repeat apply upG); exact Xj.out)⟩; have Xy : Aside0 (Kd.R (Kd.int .i64) 3 w74 w.heap.size (fun k_ => some k_ ≠ (.slice XG Xp.length XH : Value).ownBlock) (.slice XQ Xh.length XK) Xh) := ⟨by rw [← hq_]; exact (by (with_reducible repeat apply upG); exact Xl.out)⟩; have Xz : Aside0 (w74.heap[Xe]? = some (.cells #[.int .i64 a0_0, .slice Xu Xg.length Xs, .slice Xv Xk.length Xt] 31 (0, 0))) := ⟨by rw [← hq_]; exact (by exact upB Xa.out)⟩; have XA : Aside0 (w74.heap[Xi]? = some (.cells #[.int .i64 0, .slice none 0 0, .slice none 0 0] 31 (0, 0))) := ⟨by rw [← hq_]; exact (by exact upB Xc.out)⟩; have XB : Aside0 (w74.heap[Xb]? = some (.cells #[.int .i64 a0_0, .slice XG Xp.length XH, .slice XQ Xh.length XK] 31 (0, 0))) := ⟨by rw [← hq_]; exact (by exact upB Xf.out)⟩; have XC : Aside0 (Below w.heap.size w w74) := ⟨by rw [← hq_]; exact (by repeat (first | (with_reducible first | exact HB.out | apply upS | refine below_set ?_ Xn.out | refine below_set ?_ Xo.out | refine below_set ?_ Xw.out) | exact HB.out))⟩; clear Xj Xl Xa Xc Xf HB hq_; have Xj := Xx; have Xl := Xy; have Xa := Xz; have Xc := XA; have Xf := XB; have HB := XC; clear Xx Xy Xz XA XB XC))
    have Xx := Aside0.mk (Kd.R_drew Xj.out)
    have Xy := Aside0.mk (Kd.R_drew Xl.out)
    have Xz := Aside0.mk (blk_drew Xa.out)
    have XA := Aside0.mk (blk_drew Xc.out)
    have XB := Aside0.mk (blk_drew Xf.out)
    have XC := Aside0.mk (below_drew1 HB.out)
    clear Xj
    clear Xl
    clear Xa
    clear Xc
    clear Xf
    clear HB
    have Xj := Xx
    have Xl := Xy
    have Xa := Xz
    have Xc := XA
    have Xf := XB
    have HB := XC
    clear Xx Xy Xz XA XB XC
    have p483 : 0 ≤ (a1 : Int) := of_decide_eq_true (by first | (with_reducible assumption) | assumption)
    have q483 : a1 < (Xh.length : Int) := of_decide_eq_true (by first | (with_reducible assumption) | assumption)
    obtain ⟨ad483, e483, X3⟩ := Kd.at_int (Kd.R_reads' Xl.out).2.2 a1 p483 q483
    cases e483
    replace p483 := eq_true p483
    replace q483 := eq_true q483
    have p58 : 0 ≤ (a1 : Int) := of_decide_eq_true (by first | (with_reducible assumption) | assumption)
    have q58 : (a1 : Int) < ((Xh.length : Int) : Int) := of_decide_eq_true (by first | (with_reducible assumption) | assumption)
    obtain ⟨go58, Vh, eo58, YR, gl58, cl58, HG58⟩ := Kd.R_form Xl.out (by omega)
    (first | cases eo58 | (injection eo58 with ea_ en_ ec_; (first | subst ea_ | (injection ea_ with ea_; subst ea_)); subst ec_; clear en_))
    have GB58 := Aside0.mk YR
    have GG58 := Aside0.mk HG58
    clear YR gl58 HG58
    (first | simp only [add_plain] at X3 | skip)
    obtain ⟨YH, hf58_0⟩ := Kd.R_celln 0 Xl.out (a1 : Int) p58 q58
    replace p58 := eq_true p58
    replace q58 := eq_true q58
    have HP76 := Kd.R_putn Xl.out (a1 : Int) (wrap64 (-(rd Xh a1)))
    rw [← Ny484.out] at HP76
    have HQ76 := Aside0.mk HP76
    clear HP76
    refine start_ (n := 11) (S := fun w' => w'.cell? ⟨Xb, 0, none⟩ = some (.int .i64 a0_0) ∧ w'.cell? ⟨Xb, 1, none⟩ = some (.slice XG Xp.length XH) ∧ w'.cell? ⟨Xb, 2, none⟩ = some (.slice (some ⟨go58, 0, none⟩) Xh.length XK) ∧ w'.cell? ⟨go58, (a1).toNat, none⟩ = some (.int .i64 (rd Xh a1))) (ds := [10]) #[false, false, false, false, false, false, false, false, false, false, false] (by kernel_rfl) rfl rfl ⟨(blk_cell Xf.out 0).trans rfl, (blk_cell Xf.out 1).trans rfl, (blk_cell Xf.out 2).trans rfl, X3⟩ (fun hHeld => ?_); refine with_tabW section_Reverse.tab6 section_Reverse.bits6 (fun HT_ HW_ => ?_)
    generalize w74.drew = w75 at Xj Xl Xa Xc Xf HB GG58 HQ76 hf58_0 X3 YH hHeld ⊢
    refine pure_ (i := 0) (N := some 51) (v := ?_) (a' := ?_) #[true, false, false, false, false, false, false, false, false, false, false] rfl rfl (any_of HT_.out (by kernel_rfl)) (fun _ _ _ h => h) (Or.inl ⟨by rfl, ?_⟩) ?_ ?_
    rotate_left
    · intro w'; go_simp; with_reducible rfl
    rotate_left
    · simp only [Act.put, List.setIfInBounds_toArray, List.set_cons_zero, List.set_cons_succ, i64_w, i32_w]; rfl
    refine pure_ (i := 2) (N := some 53) (v := ?_) (a' := ?_) #[true, false, true, false, false, false, false, false, false, false, false] rfl rfl (any_of HT_.out (by kernel_rfl)) (fun _ _ _ h => h) (Or.inl ⟨by rfl, ?_⟩) ?_ ?_
    rotate_left
    · intro w'; go_simp; with_reducible rfl
    rotate_left
    · simp only [Act.put, List.setIfInBounds_toArray, List.set_cons_zero, List.set_cons_succ, i64_w, i32_w]; rfl
    refine pure_ (i := 3) (N := some 54) (v := ?_) (a' := ?_) #[true, false, true, true, false, false, false, false, false, false, false] rfl rfl (any_of HT_.out (by kernel_rfl)) (fun _ _ _ h => h) (Or.inl ⟨by rfl, ?_⟩) ?_ ?_
    rotate_left
    · intro w'; go_simp; with_reducible rfl
    rotate_left
    · simp only [Act.put, List.setIfInBounds_toArray, List.set_cons_zero, List.set_cons_succ, i64_w, i32_w]; rfl
    refine pure_ (i := 5) (N := some 56) (v := ?_) (a' := ?_) #[true, false, true, true, false, true, false, false, false, false, false] rfl rfl (any_of HT_.out (by kernel_rfl)) (fun _ _ _ h => h) (Or.inl ⟨by rfl, ?_⟩) ?_ ?_
    rotate_left
    · intro w'; go_simp; with_reducible rfl
    rotate_left
    · simp only [Act.put, List.setIfInBounds_toArray, List.set_cons_zero, List.set_cons_succ, i64_w, i32_w]; rfl
    refine take_ (i := 1) (N := some 52) (v := ?_) (a' := ?_) #[true, true, true, true, false, true, false, false, false, false, false] rfl rfl (take_ofW HT_.out HW_.out (by kernel_rfl)) (fun _ _ _ h => h) (Or.inl ⟨by rfl, ?_⟩) hHeld ?_ ?_
    rotate_left
    · rintro w' ⟨s0, s1, s2, s3⟩
      go_simp
      with_reducible rfl
    rotate_left
    · simp only [Act.put, List.setIfInBounds_toArray, List.set_cons_zero, List.set_cons_succ, i64_w, i32_w]; rfl
    refine take_ (i := 4) (N := some 55) (v := ?_) (a' := ?_) #[true, true, true, true, true, true, false, false, false, false, false] rfl rfl (take_ofW HT_.out HW_.out (by kernel_rfl)) (fun _ _ _ h => h) (Or.inl ⟨by rfl, ?_⟩) hHeld ?_ ?_
    rotate_left
    · rintro w' ⟨s0, s1, s2, s3⟩
      go_simp
      with_reducible rfl
    rotate_left
    · simp only [Act.put, List.setIfInBounds_toArray, List.set_cons_zero, List.set_cons_succ, i64_w, i32_w]; rfl
    refine pure_ (i := 6) (N := some 57) (v := ?_) (a' := ?_) #[true, true, true, true, true, true, true, false, false, false, false] rfl rfl (any_of HT_.out (by kernel_rfl)) (fun _ _ _ h => h) (Or.inl ⟨by rfl, ?_⟩) ?_ ?_
    rotate_left
    · intro w'; go_simp; with_reducible rfl
    rotate_left
    · simp only [Act.put, List.setIfInBounds_toArray, List.set_cons_zero, List.set_cons_succ, i64_w, i32_w]; rfl
    refine take_ (i := 7) (N := some 58) (v := ?_) (a' := ?_) #[true, true, true, true, true, true, true, true, false, false, false] rfl rfl (take_ofW HT_.out HW_.out (by kernel_rfl)) (fun _ _ _ h => h) (Or.inl ⟨by rfl, ?_⟩) hHeld ?_ ?_
    rotate_left
    · rintro w' ⟨s0, s1, s2, s3⟩
      go_simp
      with_reducible rfl
    rotate_left
    · simp only [Act.put, List.setIfInBounds_toArray, List.set_cons_zero, List.set_cons_succ, i64_w, i32_w]; rfl
    refine pure_ (i := 8) (N := some 59) (v := ?_) (a' := ?_) #[true, true, true, true, true, true, true, true, true, false, false] rfl rfl (any_of HT_.out (by kernel_rfl)) (fun _ _ _ h => h) (Or.inl ⟨by rfl, ?_⟩) ?_ ?_
    rotate_left
    · intro w'; go_simp; with_reducible rfl
    rotate_left
    · simp only [Act.put, List.setIfInBounds_toArray, List.set_cons_zero, List.set_cons_succ, i64_w, i32_w]; rfl
    refine pure_ (i := 9) (N := some 60) (v := ?_) (a' := ?_) #[true, true, true, true, true, true, true, true, true, true, false] rfl rfl (any_of HT_.out (by kernel_rfl)) (fun _ _ _ h => h) (Or.inl ⟨by rfl, ?_⟩) ?_ ?_
    rotate_left
    · intro w'; go_simp; with_reducible rfl
    rotate_left
    · simp only [Act.put, List.setIfInBounds_toArray, List.set_cons_zero, List.set_cons_succ, i64_w, i32_w]; rfl
    refine last_ (i := 10) (N := none) #[true, true, true, true, true, true, true, true, true, true, true] rfl rfl (one_of HT_.out (by kernel_rfl)) (by decide) (fun K hK => ?_)
    refine skip_ (w1 := ?_) (by rfl) rfl ?_ ?_
    rotate_left
    · go_simp
      rfl
    refine hK.out _ _ ?_
    clear hK K
    refine done_ (done_of HT_.out (by kernel_rfl)) ?_
    have Xx : Aside0 (Kd.R (Kd.int .i64) 3 (w75.setCell ⟨go58, (a1 : Int).toNat, none⟩ (.int .i64 (wrap64 (-(rd Xh a1))))) w.heap.size (fun k_ => some k_ ≠ (.slice (some ⟨go58, 0, none⟩) Xh.length XK : Value).ownBlock) (.slice XG Xp.length XH) Xp) := ⟨by (with_reducible repeat apply upG); exact Kd.R_mono (Kd.R_far (p := ⟨go58, (a1 : Int).toNat, none⟩) (Kd.R_mono Xj.out (fun k_ hk => (⟨hk, fun e_ => hk (by rw [e_]; rfl)⟩ : _ ∧ k_ ≠ go58))) (fun _ hk => hk.2) (.int .i64 (wrap64 (-(rd Xh a1))))) (fun _ hk => hk.1)⟩
    have Xy : Aside0 (Kd.R (Kd.int .i64) 3 (w75.setCell ⟨go58, (a1 : Int).toNat, none⟩ (.int .i64 (wrap64 (-(rd Xh a1))))) w.heap.size (fun k_ => some k_ ≠ (.slice XG Xp.length XH : Value).ownBlock) (.slice (some ⟨go58, 0, none⟩) Xh.length XK) y484) := ⟨by (with_reducible repeat apply upG); exact HQ76.out⟩
    have Xz : Aside0 ((w75.setCell ⟨go58, (a1 : Int).toNat, none⟩ (.int .i64 (wrap64 (-(rd Xh a1))))).heap[Xe]? = some (.cells #[.int .i64 a0_0, .slice Xu Xg.length Xs, .slice Xv Xk.length Xt] 31 (0, 0))) := ⟨by (with_reducible repeat apply upF); refine blk_far ?_ (by have h_ := Kd.R_ne Xl.out Xa.out (by decide); intro e_; exact h_ (by rw [e_]; rfl)) _; exact upB Xa.out⟩
    have XA : Aside0 ((w75.setCell ⟨go58, (a1 : Int).toNat, none⟩ (.int .i64 (wrap64 (-(rd Xh a1))))).heap[Xi]? = some (.cells #[.int .i64 0, .slice none 0 0, .slice none 0 0] 31 (0, 0))) := ⟨by (with_reducible repeat apply upF); refine blk_far ?_ (by have h_ := Kd.R_ne Xl.out Xc.out (by decide); intro e_; exact h_ (by rw [e_]; rfl)) _; exact upB Xc.out⟩
    have XB : Aside0 ((w75.setCell ⟨go58, (a1 : Int).toNat, none⟩ (.int .i64 (wrap64 (-(rd Xh a1))))).heap[Xb]? = some (.cells #[.int .i64 a0_0, .slice XG Xp.length XH, .slice (some ⟨go58, 0, none⟩) Xh.length XK] 31 (0, 0))) := ⟨by (with_reducible repeat apply upF); refine blk_far ?_ (by have h_ := Kd.R_ne Xl.out Xf.out (by decide); intro e_; exact h_ (by rw [e_]; rfl)) _; exact upB Xf.out⟩
    have XC : Aside0 (Below w.heap.size w (w75.setCell ⟨go58, (a1 : Int).toNat, none⟩ (.int .i64 (wrap64 (-(rd Xh a1)))))) := ⟨by repeat (first | (with_reducible first | exact HB.out | apply upS | refine below_set ?_ GB58.out | refine below_set ?_ Xn.out | refine below_set ?_ Xo.out | refine below_set ?_ Xw.out) | exact HB.out)⟩
    (try clear Xj)
    (try clear Xl)
    (try clear Xa)
    (try clear Xc)
    (try clear Xf)
    (try clear HB)
    generalize (w75.setCell ⟨go58, (a1 : Int).toNat, none⟩ (.int .i64 (wrap64 (-(rd Xh a1))))) = w77 at Xx Xy Xz XA XB XC ⊢
    have Xj := Xx
    have Xl := Xy
    have Xa := Xz
    have Xc := XA
    have Xf := XB
    have HB := XC
    clear Xx Xy Xz XA XB XC
    have Z2 := Xr.out
    have Z3 := Xm.out
    have Y9 : w77.cell? ⟨Xb, 0, none⟩ = some (.int .i64 a0_0) := (blk_cell Xf.out 0).trans rfl
    have Za : w77.cell? ⟨Xb, 1, none⟩ = some (.slice XG Xp.length XH) := (blk_cell Xf.out 1).trans rfl
    have Zb : w77.cell? ⟨Xb, 2, none⟩ = some (.slice (some ⟨go58, 0, none⟩) Xh.length XK) := (blk_cell Xf.out 2).trans rfl
    have Zc := blk_frozen Xf.out 0
    have Zd := blk_frozen Xf.out 1
    have Ze := blk_frozen Xf.out 2
    have Zf : w77.cell? ⟨Xi, 0, none⟩ = some (.int .i64 0) := (blk_cell Xc.out 0).trans rfl
    have Zg : w77.cell? ⟨Xi, 1, none⟩ = some (.slice none 0 0) := (blk_cell Xc.out 1).trans rfl
    have Zh : w77.cell? ⟨Xi, 2, none⟩ = some (.slice none 0 0) := (blk_cell Xc.out 2).trans rfl
    have Zi := blk_frozen Xc.out 0
    have Zj := blk_frozen Xc.out 1
    have Zk := blk_frozen Xc.out 2
    try go_wp2
    refine bodyPost_ret (results_ct rfl _ _ Xi 31 #[.int .i64 a0_0, .slice XG Xp.length XH, .slice (some ⟨go58, 0, none⟩) Xh.length XK] (0, 0) _ rfl (by (with_reducible repeat apply upF); refine blk_put (cs := #[.int .i64 a0_0, .slice XG Xp.length XH, .slice none 0 0]) ?_ 2 _ rfl; (with_reducible repeat apply upF); refine blk_put (cs := #[.int .i64 a0_0, .slice none 0 0, .slice none 0 0]) ?_ 1 _ rfl; (with_reducible repeat apply upF); refine blk_put (cs := #[.int .i64 0, .slice none 0 0, .slice none 0 0]) ?_ 0 _ rfl; exact upB Xc.out) Try.underlying31 rfl (by kernel_rfl)) rfl ?_
    exact ⟨_, _, by first | rfl | (simp [errW_none, errW_some] <;> rfl) | (simp [*, errW_none, errW_some] <;> rfl), by (with_reducible repeat apply upG); exact Kd.R_mono (Kd.R_far (p := ⟨Xi, 2, none⟩) (Kd.R_far (p := ⟨Xi, 1, none⟩) (Kd.R_far (p := ⟨Xi, 0, none⟩) (Kd.R_types Xj.out Xc.out (by decide)) (fun _ hk => hk.2) (.int .i64 a0_0)) (fun _ hk => hk.2) (.slice XG Xp.length XH)) (fun _ hk => hk.2) (.slice (some ⟨go58, 0, none⟩) Xh.length XK)) (fun _ hk => hk.1), by (with_reducible repeat apply upG); exact Kd.R_mono (Kd.R_far (p := ⟨Xi, 2, none⟩) (Kd.R_far (p := ⟨Xi, 1, none⟩) (Kd.R_far (p := ⟨Xi, 0, none⟩) (Kd.R_types Xl.out Xc.out (by decide)) (fun _ hk => hk.2) (.int .i64 a0_0)) (fun _ hk => hk.2) (.slice XG Xp.length XH)) (fun _ hk => hk.2) (.slice (some ⟨go58, 0, none⟩) Xh.length XK)) (fun _ hk => hk.1), by repeat (first | (with_reducible first | exact HB.out | apply upS | refine below_set ?_ Xn.out | refine below_set ?_ Xo.out | refine below_set ?_ Xw.out) | exact HB.out)⟩
   rw [if_pos YM] at H
   have YQ : decide (0 < XR) = true := decide_eq_true YM
   clear YM
   by_cases Zl : 0 ≤ a1
   case neg =>
    rw [if_neg Zl] at H
    exact absurd H (by simp)
   rw [if_pos Zl] at H
   have Z4 : decide (0 ≤ a1) = true := decide_eq_true Zl
   clear Zl
   by_cases Zm : a1 < (Xg.length : Int)
   case neg =>
    rw [if_neg Zm] at H
    exact absurd H (by simp)
   rw [if_pos Zm] at H
   have Z5 : decide (a1 < (Xg.length : Int)) = true := decide_eq_true Zm
   clear Zm
   by_cases Zn : a1 < (Xk.length : Int)
   case neg =>
    rw [if_neg Zn] at H
    exact absurd H (by simp)
   rw [if_pos Zn] at H
   have Z6 : decide (a1 < (Xk.length : Int)) = true := decide_eq_true Zn
   clear Zn
   by_cases Zo : a1 < (Xh.length : Int)
   case neg =>
    rw [if_neg Zo] at H
    exact absurd H (by simp)
   rw [if_pos Zo] at H
   have Z7 : decide (a1 < (Xh.length : Int)) = true := decide_eq_true Zo
   clear Zo
   obtain ⟨y482, hy482⟩ : ∃ y_ : List Int, y_ = (Xh.set (a1 : Int).toNat (wrap64 (-(rd Xh a1)))) := ⟨_, rfl⟩
   replace H : (some (wrap64 (a0_0 + (wrap64 ((wrap64 ((rd Xg a1) - 1)) * (rd Xk a1)))), Xp, y482, 0)) = some (r1, r2, r3, r4) := by first | (rw [hy482]; with_reducible exact H) | (have YE := (Option.bind_some _ _).symm.trans H; rw [hy482]; with_reducible exact YE) | (have YE := (Option.bind_some _ _).symm.trans H; with_reducible exact YE) | with_reducible exact H | (rw [hy482]; exact H) | exact H
   have Ny482 := Aside0.mk hy482
   clear hy482
   simp only [Option.some.injEq, Prod.mk.injEq] at H
   obtain ⟨rfl, rfl, rfl, rfl⟩ := H
   try go_wp2
   have Xx := Aside0.mk (blk_drew Xa.out)
   have Xy := Aside0.mk (blk_drew Xc.out)
   have Xz := Aside0.mk (below_drew1 HB.out)
   clear Xa
   clear Xc
   clear HB
   have Xa := Xx
   have Xc := Xy
   have HB := Xz
   clear Xx Xy Xz
   refine start_ (n := 11) (S := fun w' => w'.cell? ⟨Xe, 0, none⟩ = some (.int .i64 a0_0) ∧ w'.cell? ⟨Xe, 1, none⟩ = some (.slice Xu Xg.length Xs) ∧ w'.cell? ⟨Xe, 2, none⟩ = some (.slice Xv Xk.length Xt)) (ds := []) #[false, false, false, false, false, false, false, false, false, false, false] (by kernel_rfl) rfl rfl ⟨(blk_cell Xa.out 0).trans rfl, (blk_cell Xa.out 1).trans rfl, (blk_cell Xa.out 2).trans rfl⟩ (fun hHeld => ?_); refine with_tabW section_Reverse.tab3 section_Reverse.bits3 (fun HT_ HW_ => ?_)
   generalize wc.drew = w31 at Xa Xc HB hHeld ⊢
   refine pure_ (i := 0) (N := some 22) (v := ?_) (a' := ?_) #[true, false, false, false, false, false, false, false, false, false, false] rfl rfl (any_of HT_.out (by kernel_rfl)) (fun _ _ _ h => h) (Or.inl ⟨by rfl, ?_⟩) ?_ ?_
   rotate_left
   · intro w'; go_simp; with_reducible rfl
   rotate_left
   · simp only [Act.put, List.setIfInBounds_toArray, List.set_cons_zero, List.set_cons_succ, i64_w, i32_w]; rfl
   refine pure_ (i := 2) (N := some 24) (v := ?_) (a' := ?_) #[true, false, true, false, false, false, false, false, false, false, false] rfl rfl (any_of HT_.out (by kernel_rfl)) (fun _ _ _ h => h) (Or.inl ⟨by rfl, ?_⟩) ?_ ?_
   rotate_left
   · intro w'; go_simp; with_reducible rfl
   rotate_left
   · simp only [Act.put, List.setIfInBounds_toArray, List.set_cons_zero, List.set_cons_succ, i64_w, i32_w]; rfl
   refine pure_ (i := 5) (N := some 27) (v := ?_) (a' := ?_) #[true, false, true, false, false, true, false, false, false, false, false] rfl rfl (any_of HT_.out (by kernel_rfl)) (fun _ _ _ h => h) (Or.inl ⟨by rfl, ?_⟩) ?_ ?_
   rotate_left
   · intro w'; go_simp; with_reducible rfl
   rotate_left
   · simp only [Act.put, List.setIfInBounds_toArray, List.set_cons_zero, List.set_cons_succ, i64_w, i32_w]; rfl
   refine take_ (i := 1) (N := some 23) (v := ?_) (a' := ?_) #[true, true, true, false, false, true, false, false, false, false, false] rfl rfl (take_ofW HT_.out HW_.out (by kernel_rfl)) (fun _ _ _ h => h) (Or.inl ⟨by rfl, ?_⟩) hHeld ?_ ?_
   rotate_left
   · rintro w' ⟨s0, s1, s2⟩
     go_simp
     with_reducible rfl
   rotate_left
   · simp only [Act.put, List.setIfInBounds_toArray, List.set_cons_zero, List.set_cons_succ, i64_w, i32_w]; rfl
   refine take_ (i := 3) (N := some 25) (v := ?_) (a' := ?_) #[true, true, true, true, false, true, false, false, false, false, false] rfl rfl (take_ofW HT_.out HW_.out (by kernel_rfl)) (fun _ _ _ h => h) (Or.inl ⟨by rfl, ?_⟩) hHeld ?_ ?_
   rotate_left
   · rintro w' ⟨s0, s1, s2⟩
     go_simp
     with_reducible rfl
   rotate_left
   · simp only [Act.put, List.setIfInBounds_toArray, List.set_cons_zero, List.set_cons_succ, i64_w, i32_w]; rfl
   refine take_ (i := 6) (N := some 28) (v := ?_) (a' := ?_) #[true, true, true, true, false, true, true, false, false, false, false] rfl rfl (take_ofW HT_.out HW_.out (by kernel_rfl)) (fun _ _ _ h => h) (Or.inl ⟨by rfl, ?_⟩) hHeld ?_ ?_
   rotate_left
   · rintro w' ⟨s0, s1, s2⟩
     go_simp
     with_reducible rfl
   rotate_left
   · simp only [Act.put, List.setIfInBounds_toArray, List.set_cons_zero, List.set_cons_succ, i64_w, i32_w]; rfl
   refine join_ (σ := Value × Value × Nat) 1 #[true, true, true, true, true, true, true, true, true, true, false] (fun s_ => [(26, s_.1), (29, s_.2.1), (6, .pointer (some ⟨s_.2.2, 0, none⟩)), (30, .agg #[.int .i64 a0_0, s_.1, s_.2.1])]) (fun s_ w' => (w'.cell? ⟨Xe, 0, none⟩ = some (.int .i64 a0_0) ∧ w'.cell? ⟨Xe, 1, none⟩ = some (.slice Xu Xg.length Xs) ∧ w'.cell? ⟨Xe, 2, none⟩ = some (.slice Xv Xk.length Xt)) ∧ (Kd.R (Kd.int .i64) 3 w' w.heap.size (fun k_ => some k_ ≠ (s_.2.1 : Value).ownBlock) s_.1 Xp) ∧ (Kd.R (Kd.int .i64) 3 w' w.heap.size (fun k_ => some k_ ≠ (s_.1 : Value).ownBlock) s_.2.1 Xh) ∧ (w'.heap[Xe]? = some (.cells #[.int .i64 a0_0, .slice Xu Xg.length Xs, .slice Xv Xk.length Xt] 31 (0, 0))) ∧ (w'.heap[Xi]? = some (.cells #[.int .i64 0, .slice none 0 0, .slice none 0 0] 31 (0, 0))) ∧ (w'.heap[s_.2.2]? = some (.cells #[.int .i64 0, .slice none 0 0, .slice none 0 0] 31 (0, 0))) ∧ (w.heap.size ≤ s_.2.2) ∧ (w.heap.size ≤ s_.2.2) ∧ (Xe ≠ s_.2.2) ∧ (s_.2.2 ≠ Xe) ∧ (Xi ≠ s_.2.2) ∧ (s_.2.2 ≠ Xi) ∧ (Below w.heap.size w w')) ?_ ?_
   rotate_left
   · intro hCont
     refine two_ (i := 4) (j := 9) (Ni := some 26) (Nj := some 6) #[true, true, true, true, true, true, true, false, false, false, false] #[true, true, true, true, false, true, true, false, false, true, false] rfl rfl rfl rfl (two_of HT_.out (by kernel_rfl)) (by decide) (by decide) (fun K hK => ?_) (fun K hK => ?_)
     · skip
       refine goes_ Try.func53 (by kernel_rfl) rfl #[.slice Xu Xg.length Xs] (by rfl) rfl rfl (by (try simp only [List.map_toArray, List.map_cons, List.map_nil]); first | done | rfl | (simp only [List.length_drop, List.length_take]; rfl)) ?_
       with_reducible refine (slices_Clone.calls _ _ Xg Xp _ ?side1 ?side2 Y0.out).mono ?_
       (case side1 => repeat (first | exact (Kd.C_below XO.out HB.out) | (with_reducible refine Kd.C_alloc ?_ _) | (with_reducible refine Kd.C_drewN ?_ _) | (with_reducible refine Kd.C_drew ?_)))
       (case side2 => exact XS.out)
       rintro e w32 ⟨v472, rfl, ho0, hb⟩
       refine ⟨_, rfl, ?_⟩
       have Xx := Aside0.mk (Kd.R_lower ho0 (below_size (by repeat (first | (with_reducible first | exact HB.out | apply upS | refine below_set ?_ Xn.out | refine below_set ?_ Xo.out) | exact HB.out))))
       have Xy := Aside0.mk (blk_below (g := Xe) (o := .cells #[.int .i64 a0_0, .slice Xu Xg.length Xs, .slice Xv Xk.length Xt] 31 (0, 0)) (by exact upB Xa.out) hb)
       have Xz := Aside0.mk (blk_below (g := Xi) (o := .cells #[.int .i64 0, .slice none 0 0, .slice none 0 0] 31 (0, 0)) (by exact upB Xc.out) hb)
       have XA := Aside0.mk (below_step (by repeat (first | (with_reducible first | exact HB.out | apply upS | refine below_set ?_ Xn.out | refine below_set ?_ Xo.out) | exact HB.out)) hb)
       clear Xa
       clear Xc
       clear HB
       have Xj := Xx
       have Xa := Xy
       have Xc := Xz
       have HB := XA
       clear Xx Xy Xz XA
       (try clear hb)
       (try clear Yb)
       (try clear hk)
       (try clear hi)
       (try clear ho0)
       refine hK.out _ _ ⟨(blk_cell Xa.out 0).trans rfl, (blk_cell Xa.out 1).trans rfl, (blk_cell Xa.out 2).trans rfl⟩ (fun hHeld => ?_)
       clear hK K
       refine norm_ (a' := ?_) ?_ ?_
       rotate_left
       · show Act.put _ (some 26) _ = _
         simp only [Act.put, List.setIfInBounds_toArray, List.set_cons_zero, List.set_cons_succ, i64_w, i32_w]
         rfl
       refine two_ (i := 7) (j := 9) (Ni := some 29) (Nj := some 6) #[true, true, true, true, true, true, true, true, false, false, false] #[true, true, true, true, true, true, true, false, false, true, false] rfl rfl rfl rfl (two_of HT_.out (by kernel_rfl)) (by decide) (by decide) (fun K hK => ?_) (fun K hK => ?_)
       · skip
         refine goes_ Try.func53 (by kernel_rfl) rfl #[.slice Xv Xk.length Xt] (by rfl) rfl rfl (by (try simp only [List.map_toArray, List.map_cons, List.map_nil]); first | done | rfl | (simp only [List.length_drop, List.length_take]; rfl)) ?_
         with_reducible refine (slices_Clone.calls _ _ Xk Xh _ ?side1 ?side2 YL.out).mono ?_
         (case side1 => repeat (first | exact (Kd.C_below XP.out HB.out) | (with_reducible refine Kd.C_alloc ?_ _) | (with_reducible refine Kd.C_drewN ?_ _) | (with_reducible refine Kd.C_drew ?_)))
         (case side2 => exact XT.out)
         rintro e w33 ⟨v475, rfl, ho0, hb⟩
         refine ⟨_, rfl, ?_⟩
         have Xx := Aside0.mk (Kd.R_elder' (by (with_reducible repeat apply upG); exact Xj.out) (Kd.R_base ho0) hb)
         have Xy := Aside0.mk (Kd.R_lower (Kd.R_new' ho0 (Kd.R_lt (by (with_reducible repeat apply upG); exact Xj.out))) (below_size (by repeat (first | (with_reducible first | exact HB.out | apply upS | refine below_set ?_ Xn.out | refine below_set ?_ Xo.out) | exact HB.out))))
         have Xz := Aside0.mk (blk_below (g := Xe) (o := .cells #[.int .i64 a0_0, .slice Xu Xg.length Xs, .slice Xv Xk.length Xt] 31 (0, 0)) (by exact upB Xa.out) hb)
         have XA := Aside0.mk (blk_below (g := Xi) (o := .cells #[.int .i64 0, .slice none 0 0, .slice none 0 0] 31 (0, 0)) (by exact upB Xc.out) hb)
         have XB := Aside0.mk (below_step (by repeat (first | (with_reducible first | exact HB.out | apply upS | refine below_set ?_ Xn.out | refine below_set ?_ Xo.out) | exact HB.out)) hb)
         clear Xj
         clear Xa
         clear Xc
         clear HB
         have Xj := Xx
         have Xl := Xy
         have Xa := Xz
         have Xc := XA
         have HB := XB
         clear Xx Xy Xz XA XB
         (try clear hb)
         (try clear Yb)
         (try clear hk)
         (try clear hi)
         (try clear ho0)
         obtain ⟨ZK, ZL, eo34⟩ := Kd.R_slice Xl.out
         (first | subst eo34 | (injection eo34 with f1_ f2_ f3_; have f4_ := f1_.symm; have f5_ := f3_.symm; clear f1_ f2_ f3_; subst f4_; subst f5_))
         obtain ⟨Ye, Yf, eo35⟩ := Kd.R_slice Xj.out
         (first | subst eo35 | (injection eo35 with f1_ f2_ f3_; have f4_ := f1_.symm; have f5_ := f3_.symm; clear f1_ f2_ f3_; subst f4_; subst f5_))
         refine hK.out _ _ ⟨(blk_cell Xa.out 0).trans rfl, (blk_cell Xa.out 1).trans rfl, (blk_cell Xa.out 2).trans rfl⟩ (fun hHeld => ?_)
         clear hK K
         refine norm_ (a' := ?_) ?_ ?_
         rotate_left
         · show Act.put _ (some 29) _ = _
           simp only [Act.put, List.setIfInBounds_toArray, List.set_cons_zero, List.set_cons_succ, i64_w, i32_w]
           rfl
         refine pure_ (i := 8) (N := some 30) (v := ?_) (a' := ?_) #[true, true, true, true, true, true, true, true, true, false, false] rfl rfl (any_of HT_.out (by kernel_rfl)) (fun _ _ _ h => h) (Or.inl ⟨by rfl, ?_⟩) ?_ ?_
         rotate_left
         · intro w'; go_simp; with_reducible rfl
         rotate_left
         · simp only [Act.put, List.setIfInBounds_toArray, List.set_cons_zero, List.set_cons_succ, i64_w, i32_w]; rfl
         refine one_ (i := 9) (N := some 6) #[true, true, true, true, true, true, true, true, true, true, false] rfl rfl (one_of HT_.out (by kernel_rfl)) (by decide) (fun K hK => ?_)
         refine box_step ?hg (N := 6) ?hd (cs := #[.int .i64 0, .slice none 0 0, .slice none 0 0]) (t := 31) ?hr ?_; (case hd => rfl); (case hg => rfl); (case hr => first | (go_simp; done) | (go_simp; rfl))
         intro Xb hg w36 hbox hb
         have Xx := Aside0.mk (Kd.R_below (by (with_reducible repeat apply upG); exact Xj.out) hb)
         have Xy := Aside0.mk (Kd.R_below (by (with_reducible repeat apply upG); exact Xl.out) hb)
         have Xz := Aside0.mk (blk_below (g := Xe) (o := .cells #[.int .i64 a0_0, .slice Xu Xg.length Xs, .slice Xv Xk.length Xt] 31 (0, 0)) (by exact upB Xa.out) hb)
         have XA := Aside0.mk (blk_below (g := Xi) (o := .cells #[.int .i64 0, .slice none 0 0, .slice none 0 0] 31 (0, 0)) (by exact upB Xc.out) hb)
         have XB := Aside0.mk (below_step (by repeat (first | (with_reducible first | exact HB.out | apply upS | refine below_set ?_ Xn.out | refine below_set ?_ Xo.out) | exact HB.out)) hb)
         have XC := Aside0.mk (hbox)
         have XW := Aside0.mk ((by rw [hg]; exact (below_size (by repeat (first | (with_reducible first | exact HB.out | apply upS | refine below_set ?_ Xn.out | refine below_set ?_ Xo.out) | exact HB.out))) : w.heap.size ≤ Xb))
         have XY := Aside0.mk ((by rw [hg]; exact (below_size (by repeat (first | (with_reducible first | exact HB.out | apply upS | refine below_set ?_ Xn.out | refine below_set ?_ Xo.out) | exact HB.out))) : w.heap.size ≤ Xb))
         have XZ := Aside0.mk ((by rw [hg]; exact Nat.ne_of_lt (blk_lt (g := Xe) (o := .cells #[.int .i64 a0_0, .slice Xu Xg.length Xs, .slice Xv Xk.length Xt] 31 (0, 0)) (by exact upB Xa.out)) : Xe ≠ Xb))
         have X0 := Aside0.mk ((by rw [hg]; exact Nat.ne_of_gt (blk_lt (g := Xe) (o := .cells #[.int .i64 a0_0, .slice Xu Xg.length Xs, .slice Xv Xk.length Xt] 31 (0, 0)) (by exact upB Xa.out)) : Xb ≠ Xe))
         have XN := Aside0.mk ((by rw [hg]; exact Nat.ne_of_lt (blk_lt (g := Xi) (o := .cells #[.int .i64 0, .slice none 0 0, .slice none 0 0] 31 (0, 0)) (by exact upB Xc.out)) : Xi ≠ Xb))
         have X1 := Aside0.mk ((by rw [hg]; exact Nat.ne_of_gt (blk_lt (g := Xi) (o := .cells #[.int .i64 0, .slice none 0 0, .slice none 0 0] 31 (0, 0)) (by exact upB Xc.out)) : Xb ≠ Xi))
         clear Xj
         clear Xl
         clear Xa
         clear Xc
         clear HB
         have Xj := Xx
         have Xl := Xy
         have Xa := Xz
         have Xc := XA
         have HB := XB
         have Xf := XC
         have XL := XW
         have Xw := XY
         have Xd := XZ
         have Xq := X0
         have Xm := XN
         have Xr := X1
         clear Xx Xy Xz XA XB XC XW XY XZ X0 XN X1
         clear hb hbox hg
         refine hK.out _ _ ⟨(blk_cell Xa.out 0).trans rfl, (blk_cell Xa.out 1).trans rfl, (blk_cell Xa.out 2).trans rfl⟩ (fun hHeld => ?_)
         clear hK K
         refine norm_ (a' := ?_) ?_ ?_
         rotate_left
         · show Act.put _ (some 6) _ = _
           simp only [Act.put, List.setIfInBounds_toArray, List.set_cons_zero, List.set_cons_succ, i64_w, i32_w]
           rfl
         exact norm_ (by simp only [putAll, Act.put, List.setIfInBounds_toArray, List.set_cons_zero, List.set_cons_succ]) (hCont (.slice Ye Xp.length Yf, .slice ZK Xh.length ZL, Xb) _ ⟨hHeld, (by (with_reducible repeat apply upG); exact Kd.R_mono Xj.out (fun _ hk => hk.2)), (by (with_reducible repeat apply upG); exact Kd.R_mono Xl.out (fun _ hk => hk.2)), (by exact upB Xa.out), (by exact upB Xc.out), (by exact upB Xf.out), XL.out, Xw.out, Xd.out, Xq.out, Xm.out, Xr.out, (by repeat (first | (with_reducible first | exact HB.out | apply upS | refine below_set ?_ Xn.out | refine below_set ?_ Xo.out | refine below_set ?_ Xw.out) | exact HB.out))⟩)
       skip
       refine box_step ?hg (N := 6) ?hd (cs := #[.int .i64 0, .slice none 0 0, .slice none 0 0]) (t := 31) ?hr ?_; (case hd => rfl); (case hg => rfl); (case hr => first | (go_simp; done) | (go_simp; rfl))
       intro Xb hg w33 hbox hb
       have Xx := Aside0.mk (Kd.R_below (by (with_reducible repeat apply upG); exact Xj.out) hb)
       have Xy := Aside0.mk (blk_below (g := Xe) (o := .cells #[.int .i64 a0_0, .slice Xu Xg.length Xs, .slice Xv Xk.length Xt] 31 (0, 0)) (by exact upB Xa.out) hb)
       have Xz := Aside0.mk (blk_below (g := Xi) (o := .cells #[.int .i64 0, .slice none 0 0, .slice none 0 0] 31 (0, 0)) (by exact upB Xc.out) hb)
       have XA := Aside0.mk (below_step (by repeat (first | (with_reducible first | exact HB.out | apply upS | refine below_set ?_ Xn.out | refine below_set ?_ Xo.out) | exact HB.out)) hb)
       have XB := Aside0.mk (hbox)
       have XC := Aside0.mk ((by rw [hg]; exact (below_size (by repeat (first | (with_reducible first | exact HB.out | apply upS | refine below_set ?_ Xn.out | refine below_set ?_ Xo.out) | exact HB.out))) : w.heap.size ≤ Xb))
       have XW := Aside0.mk ((by rw [hg]; exact (below_size (by repeat (first | (with_reducible first | exact HB.out | apply upS | refine below_set ?_ Xn.out | refine below_set ?_ Xo.out) | exact HB.out))) : w.heap.size ≤ Xb))
       have XY := Aside0.mk ((by rw [hg]; exact Nat.ne_of_lt (blk_lt (g := Xe) (o := .cells #[.int .i64 a0_0, .slice Xu Xg.length Xs, .slice Xv Xk.length Xt] 31 (0, 0)) (by exact upB Xa.out)) : Xe ≠ Xb))
       have XZ := Aside0.mk ((by rw [hg]; exact Nat.ne_of_gt (blk_lt (g := Xe) (o := .cells #[.int .i64 a0_0, .slice Xu Xg.length Xs, .slice Xv Xk.length Xt] 31 (0, 0)) (by exact upB Xa.out)) : Xb ≠ Xe))
       have X0 := Aside0.mk ((by rw [hg]; exact Nat.ne_of_lt (blk_lt (g := Xi) (o := .cells #[.int .i64 0, .slice none 0 0, .slice none 0 0] 31 (0, 0)) (by exact upB Xc.out)) : Xi ≠ Xb))
       have XN := Aside0.mk ((by rw [hg]; exact Nat.ne_of_gt (blk_lt (g := Xi) (o := .cells #[.int .i64 0, .slice none 0 0, .slice none 0 0] 31 (0, 0)) (by exact upB Xc.out)) : Xb ≠ Xi))
       clear Xj
       clear Xa
       clear Xc
       clear HB
       have Xj := Xx
       have Xa := Xy
       have Xc := Xz
       have HB := XA
       have Xf := XB
       have XL := XC
       have Xw := XW
       have Xd := XY
       have Xq := XZ
       have Xm := X0
       have Xr := XN
       clear Xx Xy Xz XA XB XC XW XY XZ X0 XN
       clear hb hbox hg
       refine hK.out _ _ ⟨(blk_cell Xa.out 0).trans rfl, (blk_cell Xa.out 1).trans rfl, (blk_cell Xa.out 2).trans rfl⟩ (fun hHeld => ?_)
       clear hK K
       refine norm_ (a' := ?_) ?_ ?_
       rotate_left
       · show Act.put _ (some 6) _ = _
         simp only [Act.put, List.setIfInBounds_toArray, List.set_cons_zero, List.set_cons_succ, i64_w, i32_w]
         rfl
       refine one_ (i := 7) (N := some 29) #[true, true, true, true, true, true, true, true, false, true, false] rfl rfl (one_of HT_.out (by kernel_rfl)) (by decide) (fun K hK => ?_)
       refine goes_ Try.func53 (by kernel_rfl) rfl #[.slice Xv Xk.length Xt] (by rfl) rfl rfl (by (try simp only [List.map_toArray, List.map_cons, List.map_nil]); first | done | rfl | (simp only [List.length_drop, List.length_take]; rfl)) ?_
       with_reducible refine (slices_Clone.calls _ _ Xk Xh _ ?side1 ?side2 YL.out).mono ?_
       (case side1 => repeat (first | exact (Kd.C_below XP.out HB.out) | (with_reducible refine Kd.C_alloc ?_ _) | (with_reducible refine Kd.C_drewN ?_ _) | (with_reducible refine Kd.C_drew ?_)))
       (case side2 => exact XT.out)
       rintro e w34 ⟨v475, rfl, ho0, hb⟩
       refine ⟨_, rfl, ?_⟩
       have Xx := Aside0.mk (Kd.R_elder' (by (with_reducible repeat apply upG); exact Xj.out) (Kd.R_base ho0) hb)
       have Xy := Aside0.mk (Kd.R_lower (Kd.R_new' ho0 (Kd.R_lt (by (with_reducible repeat apply upG); exact Xj.out))) (below_size (by repeat (first | (with_reducible first | exact HB.out | apply upS | refine below_set ?_ Xn.out | refine below_set ?_ Xo.out | refine below_set ?_ Xw.out) | exact HB.out))))
       have Xz := Aside0.mk (blk_below (g := Xe) (o := .cells #[.int .i64 a0_0, .slice Xu Xg.length Xs, .slice Xv Xk.length Xt] 31 (0, 0)) (by exact upB Xa.out) hb)
       have XA := Aside0.mk (blk_below (g := Xi) (o := .cells #[.int .i64 0, .slice none 0 0, .slice none 0 0] 31 (0, 0)) (by exact upB Xc.out) hb)
       have XB := Aside0.mk (blk_below (g := Xb) (o := .cells #[.int .i64 0, .slice none 0 0, .slice none 0 0] 31 (0, 0)) (by exact upB Xf.out) hb)
       have XC := Aside0.mk (below_step (by repeat (first | (with_reducible first | exact HB.out | apply upS | refine below_set ?_ Xn.out | refine below_set ?_ Xo.out | refine below_set ?_ Xw.out) | exact HB.out)) hb)
       clear Xj
       clear Xa
       clear Xc
       clear Xf
       clear HB
       have Xj := Xx
       have Xl := Xy
       have Xa := Xz
       have Xc := XA
       have Xf := XB
       have HB := XC
       clear Xx Xy Xz XA XB XC
       (try clear hb)
       (try clear Yb)
       (try clear hk)
       (try clear hi)
       (try clear ho0)
       obtain ⟨Ye, Yf, eo35⟩ := Kd.R_slice Xl.out
       (first | subst eo35 | (injection eo35 with f1_ f2_ f3_; have f4_ := f1_.symm; have f5_ := f3_.symm; clear f1_ f2_ f3_; subst f4_; subst f5_))
       obtain ⟨YI, YJ, eo36⟩ := Kd.R_slice Xj.out
       (first | subst eo36 | (injection eo36 with f1_ f2_ f3_; have f4_ := f1_.symm; have f5_ := f3_.symm; clear f1_ f2_ f3_; subst f4_; subst f5_))
       refine hK.out _ _ ⟨(blk_cell Xa.out 0).trans rfl, (blk_cell Xa.out 1).trans rfl, (blk_cell Xa.out 2).trans rfl⟩ (fun hHeld => ?_)
       clear hK K
       refine norm_ (a' := ?_) ?_ ?_
       rotate_left
       · show Act.put _ (some 29) _ = _
         simp only [Act.put, List.setIfInBounds_toArray, List.set_cons_zero, List.set_cons_succ, i64_w, i32_w]
         rfl
       refine pure_ (i := 8) (N := some 30) (v := ?_) (a' := ?_) #[true, true, true, true, true, true, true, true, true, true, false] rfl rfl (any_of HT_.out (by kernel_rfl)) (fun _ _ _ h => h) (Or.inl ⟨by rfl, ?_⟩) ?_ ?_
       rotate_left
       · intro w'; go_simp; with_reducible rfl
       rotate_left
       · simp only [Act.put, List.setIfInBounds_toArray, List.set_cons_zero, List.set_cons_succ, i64_w, i32_w]; rfl
       exact norm_ (by simp only [putAll, Act.put, List.setIfInBounds_toArray, List.set_cons_zero, List.set_cons_succ]) (hCont (.slice YI Xp.length YJ, .slice Ye Xh.length Yf, Xb) _ ⟨hHeld, (by (with_reducible repeat apply upG); exact Kd.R_mono Xj.out (fun _ hk => hk.2)), (by (with_reducible repeat apply upG); exact Kd.R_mono Xl.out (fun _ hk => hk.2)), (by exact upB Xa.out), (by exact upB Xc.out), (by exact upB Xf.out), XL.out, Xw.out, Xd.out, Xq.out, Xm.out, Xr.out, (by repeat (first | (with_reducible first | exact HB.out | apply upS | refine below_set ?_ Xn.out | refine below_set ?_ Xo.out | refine below_set ?_ Xw.out) | exact HB.out))⟩)
     skip
     refine box_step ?hg (N := 6) ?hd (cs := #[.int .i64 0, .slice none 0 0, .slice none 0 0]) (t := 31) ?hr ?_; (case hd => rfl); (case hg => rfl); (case hr => first | (go_simp; done) | (go_simp; rfl))
     intro Xb hg w32 hbox hb
     have Xx := Aside0.mk (blk_below (g := Xe) (o := .cells #[.int .i64 a0_0, .slice Xu Xg.length Xs, .slice Xv Xk.length Xt] 31 (0, 0)) (by exact upB Xa.out) hb)
     have Xy := Aside0.mk (blk_below (g := Xi) (o := .cells #[.int .i64 0, .slice none 0 0, .slice none 0 0] 31 (0, 0)) (by exact upB Xc.out) hb)
     have Xz := Aside0.mk (below_step (by repeat (first | (with_reducible first | exact HB.out | apply upS | refine below_set ?_ Xn.out | refine below_set ?_ Xo.out) | exact HB.out)) hb)
     have XA := Aside0.mk (hbox)
     have XB := Aside0.mk ((by rw [hg]; exact (below_size (by repeat (first | (with_reducible first | exact HB.out | apply upS | refine below_set ?_ Xn.out | refine below_set ?_ Xo.out) | exact HB.out))) : w.heap.size ≤ Xb))
     have XC := Aside0.mk ((by rw [hg]; exact (below_size (by repeat (first | (with_reducible first | exact HB.out | apply upS | refine below_set ?_ Xn.out | refine below_set ?_ Xo.out) | exact HB.out))) : w.heap.size ≤ Xb))
     have XW := Aside0.mk ((by rw [hg]; exact Nat.ne_of_lt (blk_lt (g := Xe) (o := .cells #[.int .i64 a0_0, .slice Xu Xg.length Xs, .slice Xv Xk.length Xt] 31 (0, 0)) (by exact upB Xa.out)) : Xe ≠ Xb))
     have XY := Aside0.mk ((by rw [hg]; exact Nat.ne_of_gt (blk_lt (g := Xe) (o := .cells #[.int .i64 a0_0, .slice Xu Xg.length Xs, .slice Xv Xk.length Xt] 31 (0, 0)) (by exact upB Xa.out)) : Xb ≠ Xe))
     have XZ := Aside0.mk ((by rw [hg]; exact Nat.ne_of_lt (blk_lt (g := Xi) (o := .cells #[.int .i64 0, .slice none 0 0, .slice none 0 0] 31 (0, 0)) (by exact upB Xc.out)) : Xi ≠ Xb))
     have X0 := Aside0.mk ((by rw [hg]; exact Nat.ne_of_gt (blk_lt (g := Xi) (o := .cells #[.int .i64 0, .slice none 0 0, .slice none 0 0] 31 (0, 0)) (by exact upB Xc.out)) : Xb ≠ Xi))
     clear Xa
     clear Xc
     clear HB
     have Xa := Xx
     have Xc := Xy
     have HB := Xz
     have Xf := XA
     have XL := XB
     have Xw := XC
     have Xd := XW
     have Xq := XY
     have Xm := XZ
     have Xr := X0
     clear Xx Xy Xz XA XB XC XW XY XZ X0
     clear hb hbox hg
     refine hK.out _ _ ⟨(blk_cell Xa.out 0).trans rfl, (blk_cell Xa.out 1).trans rfl, (blk_cell Xa.out 2).trans rfl⟩ (fun hHeld => ?_)
     clear hK K
     refine norm_ (a' := ?_) ?_ ?_
     rotate_left
     · show Act.put _ (some 6) _ = _
       simp only [Act.put, List.setIfInBounds_toArray, List.set_cons_zero, List.set_cons_succ, i64_w, i32_w]
       rfl
     refine one_ (i := 4) (N := some 26) #[true, true, true, true, true, true, true, false, false, true, false] rfl rfl (one_of HT_.out (by kernel_rfl)) (by decide) (fun K hK => ?_)
     refine goes_ Try.func53 (by kernel_rfl) rfl #[.slice Xu Xg.length Xs] (by rfl) rfl rfl (by (try simp only [List.map_toArray, List.map_cons, List.map_nil]); first | done | rfl | (simp only [List.length_drop, List.length_take]; rfl)) ?_
     with_reducible refine (slices_Clone.calls _ _ Xg Xp _ ?side1 ?side2 Y0.out).mono ?_
     (case side1 => repeat (first | exact (Kd.C_below XO.out HB.out) | (with_reducible refine Kd.C_alloc ?_ _) | (with_reducible refine Kd.C_drewN ?_ _) | (with_reducible refine Kd.C_drew ?_)))
     (case side2 => exact XS.out)
     rintro e w33 ⟨v472, rfl, ho0, hb⟩
     refine ⟨_, rfl, ?_⟩
     have Xx := Aside0.mk (Kd.R_lower ho0 (below_size (by repeat (first | (with_reducible first | exact HB.out | apply upS | refine below_set ?_ Xn.out | refine below_set ?_ Xo.out | refine below_set ?_ Xw.out) | exact HB.out))))
     have Xy := Aside0.mk (blk_below (g := Xe) (o := .cells #[.int .i64 a0_0, .slice Xu Xg.length Xs, .slice Xv Xk.length Xt] 31 (0, 0)) (by exact upB Xa.out) hb)
     have Xz := Aside0.mk (blk_below (g := Xi) (o := .cells #[.int .i64 0, .slice none 0 0, .slice none 0 0] 31 (0, 0)) (by exact upB Xc.out) hb)
     have XA := Aside0.mk (blk_below (g := Xb) (o := .cells #[.int .i64 0, .slice none 0 0, .slice none 0 0] 31 (0, 0)) (by exact upB Xf.out) hb)
     have XB := Aside0.mk (below_step (by repeat (first | (with_reducible first | exact HB.out | apply upS | refine below_set ?_ Xn.out | refine below_set ?_ Xo.out | refine below_set ?_ Xw.out) | exact HB.out)) hb)
     clear Xa
     clear Xc
     clear Xf
     clear HB
     have Xj := Xx
     have Xa := Xy
     have Xc := Xz
     have Xf := XA
     have HB := XB
     clear Xx Xy Xz XA XB
     (try clear hb)
     (try clear Yb)
     (try clear hk)
     (try clear hi)
     (try clear ho0)
     refine hK.out _ _ ⟨(blk_cell Xa.out 0).trans rfl, (blk_cell Xa.out 1).trans rfl, (blk_cell Xa.out 2).trans rfl⟩ (fun hHeld => ?_)
     clear hK K
     refine norm_ (a' := ?_) ?_ ?_
     rotate_left
     · show Act.put _ (some 26) _ = _
       simp only [Act.put, List.setIfInBounds_toArray, List.set_cons_zero, List.set_cons_succ, i64_w, i32_w]
       rfl
     refine one_ (i := 7) (N := some 29) #[true, true, true, true, true, true, true, true, false, true, false] rfl rfl (one_of HT_.out (by kernel_rfl)) (by decide) (fun K hK => ?_)
     refine goes_ Try.func53 (by kernel_rfl) rfl #[.slice Xv Xk.length Xt] (by rfl) rfl rfl (by (try simp only [List.map_toArray, List.map_cons, List.map_nil]); first | done | rfl | (simp only [List.length_drop, List.length_take]; rfl)) ?_
     with_reducible refine (slices_Clone.calls _ _ Xk Xh _ ?side1 ?side2 YL.out).mono ?_
     (case side1 => repeat (first | exact (Kd.C_below XP.out HB.out) | (with_reducible refine Kd.C_alloc ?_ _) | (with_reducible refine Kd.C_drewN ?_ _) | (with_reducible refine Kd.C_drew ?_)))
     (case side2 => exact XT.out)
     rintro e w34 ⟨v475, rfl, ho0, hb⟩
     refine ⟨_, rfl, ?_⟩
     have Xx := Aside0.mk (Kd.R_elder' (by (with_reducible repeat apply upG); exact Xj.out) (Kd.R_base ho0) hb)
     have Xy := Aside0.mk (Kd.R_lower (Kd.R_new' ho0 (Kd.R_lt (by (with_reducible repeat apply upG); exact Xj.out))) (below_size (by repeat (first | (with_reducible first | exact HB.out | apply upS | refine below_set ?_ Xn.out | refine below_set ?_ Xo.out | refine below_set ?_ Xw.out) | exact HB.out))))
     have Xz := Aside0.mk (blk_below (g := Xe) (o := .cells #[.int .i64 a0_0, .slice Xu Xg.length Xs, .slice Xv Xk.length Xt] 31 (0, 0)) (by exact upB Xa.out) hb)
     have XA := Aside0.mk (blk_below (g := Xi) (o := .cells #[.int .i64 0, .slice none 0 0, .slice none 0 0] 31 (0, 0)) (by exact upB Xc.out) hb)
     have XB := Aside0.mk (blk_below (g := Xb) (o := .cells #[.int .i64 0, .slice none 0 0, .slice none 0 0] 31 (0, 0)) (by exact upB Xf.out) hb)
     have XC := Aside0.mk (below_step (by repeat (first | (with_reducible first | exact HB.out | apply upS | refine below_set ?_ Xn.out | refine below_set ?_ Xo.out | refine below_set ?_ Xw.out) | exact HB.out)) hb)
     clear Xj
     clear Xa
     clear Xc
     clear Xf
     clear HB
     have Xj := Xx
     have Xl := Xy
     have Xa := Xz
     have Xc := XA
     have Xf := XB
     have HB := XC
     clear Xx Xy Xz XA XB XC
     (try clear hb)
     (try clear Yb)
     (try clear hk)
     (try clear hi)
     (try clear ho0)
     obtain ⟨Ye, Yf, eo35⟩ := Kd.R_slice Xl.out
     (first | subst eo35 | (injection eo35 with f1_ f2_ f3_; have f4_ := f1_.symm; have f5_ := f3_.symm; clear f1_ f2_ f3_; subst f4_; subst f5_))
     obtain ⟨YI, YJ, eo36⟩ := Kd.R_slice Xj.out
     (first | subst eo36 | (injection eo36 with f1_ f2_ f3_; have f4_ := f1_.symm; have f5_ := f3_.symm; clear f1_ f2_ f3_; subst f4_; subst f5_))
     refine hK.out _ _ ⟨(blk_cell Xa.out 0).trans rfl, (blk_cell Xa.out 1).trans rfl, (blk_cell Xa.out 2).trans rfl⟩ (fun hHeld => ?_)
     clear hK K
     refine norm_ (a' := ?_) ?_ ?_
     rotate_left
     · show Act.put _ (some 29) _ = _
       simp only [Act.put, List.setIfInBounds_toArray, List.set_cons_zero, List.set_cons_succ, i64_w, i32_w]
       rfl
     refine pure_ (i := 8) (N := some 30) (v := ?_) (a' := ?_) #[true, true, true, true, true, true, true, true, true, true, false] rfl rfl (any_of HT_.out (by kernel_rfl)) (fun _ _ _ h => h) (Or.inl ⟨by rfl, ?_⟩) ?_ ?_
     rotate_left
     · intro w'; go_simp; with_reducible rfl
     rotate_left
     · simp only [Act.put, List.setIfInBounds_toArray, List.set_cons_zero, List.set_cons_succ, i64_w, i32_w]; rfl
     exact norm_ (by simp only [putAll, Act.put, List.setIfInBounds_toArray, List.set_cons_zero, List.set_cons_succ]) (hCont (.slice YI Xp.length YJ, .slice Ye Xh.length Yf, Xb) _ ⟨hHeld, (by (with_reducible repeat apply upG); exact Kd.R_mono Xj.out (fun _ hk => hk.2)), (by (with_reducible repeat apply upG); exact Kd.R_mono Xl.out (fun _ hk => hk.2)), (by exact upB Xa.out), (by exact upB Xc.out), (by exact upB Xf.out), XL.out, Xw.out, Xd.out, Xq.out, Xm.out, Xr.out, (by repeat (first | (with_reducible first | exact HB.out | apply upS | refine below_set ?_ Xn.out | refine below_set ?_ Xo.out | refine below_set ?_ Xw.out) | exact HB.out))⟩)
   rintro ⟨v472, v475, Xb⟩ w37 ⟨hS_, h0_, h1_, h2_, h3_, h4_, h5_, h6_, h7_, h8_, h9_, h10_, h11_⟩
   have Xx : Aside0 (Kd.R (Kd.int .i64) 3 w37 w.heap.size (fun k_ => some k_ ≠ (v475 : Value).ownBlock) v472 Xp) := ⟨h0_⟩
   have Xy : Aside0 (Kd.R (Kd.int .i64) 3 w37 w.heap.size (fun k_ => some k_ ≠ (v472 : Value).ownBlock) v475 Xh) := ⟨h1_⟩
   have Xz : Aside0 (w37.heap[Xe]? = some (.cells #[.int .i64 a0_0, .slice Xu Xg.length Xs, .slice Xv Xk.length Xt] 31 (0, 0))) := ⟨h2_⟩
   have XA : Aside0 (w37.heap[Xi]? = some (.cells #[.int .i64 0, .slice none 0 0, .slice none 0 0] 31 (0, 0))) := ⟨h3_⟩
   have XB : Aside0 (w37.heap[Xb]? = some (.cells #[.int .i64 0, .slice none 0 0, .slice none 0 0] 31 (0, 0))) := ⟨h4_⟩
   have XC : Aside0 (w.heap.size ≤ Xb) := ⟨h5_⟩
   have XW : Aside0 (w.heap.size ≤ Xb) := ⟨h6_⟩
   have XY : Aside0 (Xe ≠ Xb) := ⟨h7_⟩
   have XZ : Aside0 (Xb ≠ Xe) := ⟨h8_⟩
   have X0 : Aside0 (Xi ≠ Xb) := ⟨h9_⟩
   have XN : Aside0 (Xb ≠ Xi) := ⟨h10_⟩
   have X1 : Aside0 (Below w.heap.size w w37) := ⟨h11_⟩
   clear Xa
   clear Xc
   clear HB
   clear h0_ h1_ h2_ h3_ h4_ h5_ h6_ h7_ h8_ h9_ h10_ h11_
   have Xj := Xx
   have Xl := Xy
   have Xa := Xz
   have Xc := XA
   have Xf := XB
   have XL := XC
   have Xw := XW
   have Xd := XY
   have Xq := XZ
   have Xm := X0
   have Xr := XN
   have HB := X1
   clear Xx Xy Xz XA XB XC XW XY XZ X0 XN X1
   have hHeld : w37.cell? ⟨Xe, 0, none⟩ = some (.int .i64 a0_0) ∧ w37.cell? ⟨Xe, 1, none⟩ = some (.slice Xu Xg.length Xs) ∧ w37.cell? ⟨Xe, 2, none⟩ = some (.slice Xv Xk.length Xt) := hS_
   obtain ⟨XM, XF, eo38⟩ := Kd.R_slice Xl.out
   (first | subst eo38 | (injection eo38 with f1_ f2_ f3_; have f4_ := f1_.symm; have f5_ := f3_.symm; clear f1_ f2_ f3_; subst f4_; subst f5_))
   obtain ⟨XD, XE, eo39⟩ := Kd.R_slice Xj.out
   (first | subst eo39 | (injection eo39 with f1_ f2_ f3_; have f4_ := f1_.symm; have f5_ := f3_.symm; clear f1_ f2_ f3_; subst f4_; subst f5_))
   refine norm_ (a' := ?_) ?_ ?_
   rotate_left
   · simp only [putAll, Act.put, List.setIfInBounds_toArray, List.set_cons_zero, List.set_cons_succ]
     rfl
   refine one_ (i := 10) (N := none) #[true, true, true, true, true, true, true, true, true, true, true] rfl rfl (one_of HT_.out (by kernel_rfl)) (by decide) (fun K hK => ?_)
   have hs40 : w37.cell? ⟨Xb, 0, none⟩ = some (.int .i64 0) := (blk_cell Xf.out 0).trans rfl
   have hfs40 := blk_frozen Xf.out 0
   have hns40_0 := Xd.out
   have hns40_1 := Xm.out
   have hms40_0 := Xq.out
   have hms40_1 := Xr.out
   have hs41 : w37.cell? ⟨Xb, 1, none⟩ = some (.slice none 0 0) := (blk_cell Xf.out 1).trans rfl
   have hfs41 := blk_frozen Xf.out 1
   have hns41_0 := Xd.out
   have hns41_1 := Xm.out
   have hms41_0 := Xq.out
   have hms41_1 := Xr.out
   have hs42 : w37.cell? ⟨Xb, 2, none⟩ = some (.slice none 0 0) := (blk_cell Xf.out 2).trans rfl
   have hfs42 := blk_frozen Xf.out 2
   have hns42_0 := Xd.out
   have hns42_1 := Xm.out
   have hms42_0 := Xq.out
   have hms42_1 := Xr.out
   refine skip_ (w1 := ?_) (by rfl) rfl ?_ ?_
   rotate_left
   · go_simp
     rfl
   refine hK.out _ _ ⟨((cell_far (p := ⟨Xb, _, none⟩) Xd.out _).trans (((cell_far (p := ⟨Xb, _, none⟩) Xd.out _).trans (((cell_far (p := ⟨Xb, _, none⟩) Xd.out _).trans (hHeld.1)))))), ((cell_far (p := ⟨Xb, _, none⟩) Xd.out _).trans (((cell_far (p := ⟨Xb, _, none⟩) Xd.out _).trans (((cell_far (p := ⟨Xb, _, none⟩) Xd.out _).trans (hHeld.2.1)))))), ((cell_far (p := ⟨Xb, _, none⟩) Xd.out _).trans (((cell_far (p := ⟨Xb, _, none⟩) Xd.out _).trans (((cell_far (p := ⟨Xb, _, none⟩) Xd.out _).trans (hHeld.2.2))))))⟩ (fun hHeld => ?_)
   clear hK K
   refine done_ (done_of HT_.out (by kernel_rfl)) ?_
   have Z8 := XI.out
   have Z9 := XJ.out
   have Va := Xd.out
   have Vb := Xq.out
   have Zp : w37.cell? ⟨Xe, 0, none⟩ = some (.int .i64 a0_0) := (blk_cell Xa.out 0).trans rfl
   have Zq : w37.cell? ⟨Xe, 1, none⟩ = some (.slice Xu Xg.length Xs) := (blk_cell Xa.out 1).trans rfl
   have Zr : w37.cell? ⟨Xe, 2, none⟩ = some (.slice Xv Xk.length Xt) := (blk_cell Xa.out 2).trans rfl
   have Zs := blk_frozen Xa.out 0
   have Zt := blk_frozen Xa.out 1
   have Zu := blk_frozen Xa.out 2
   try go_wp2_with (first | ((with_reducible refine gate_callee (f := 46) rfl ?_); refine goesL_ (some 33) rfl rfl Try.func46 (by kernel_rfl) rfl #[.slice Xu Xg.length Xs] rfl (by (try simp only [List.map_toArray, List.map_cons, List.map_nil]); first | done | rfl | (simp only [List.length_drop, List.length_take]; rfl)) ?_; (with_reducible refine (section_size.calls kj2 _ _ Xg XR _ ?side1 ?side2 ZV.out).mono ?_); (case side1 => exact Kd.C_below XO.out (by repeat (first | (with_reducible first | exact HB.out | apply upS | refine below_set ?_ Xn.out | refine below_set ?_ Xo.out | refine below_set ?_ Xw.out) | exact HB.out))); (case side2 => exact XS.out); rintro e w' ⟨rfl, ⟨nd, rfl⟩⟩; refine ⟨_, rfl, ?_⟩))
   have Xx : Aside0 (Kd.R (Kd.int .i64) 3 (((w37.setCell ⟨Xb, 0, none⟩ (.int .i64 a0_0)).setCell ⟨Xb, 1, none⟩ (.slice XD Xp.length XE)).setCell ⟨Xb, 2, none⟩ (.slice XM Xh.length XF)) w.heap.size (fun k_ => some k_ ≠ (.slice XM Xh.length XF : Value).ownBlock) (.slice XD Xp.length XE) Xp) := ⟨by (with_reducible repeat apply upG); exact Kd.R_mono (Kd.R_far (p := ⟨Xb, 2, none⟩) (Kd.R_far (p := ⟨Xb, 1, none⟩) (Kd.R_far (p := ⟨Xb, 0, none⟩) (Kd.R_types Xj.out Xf.out (by decide)) (fun _ hk => hk.2) (.int .i64 a0_0)) (fun _ hk => hk.2) (.slice XD Xp.length XE)) (fun _ hk => hk.2) (.slice XM Xh.length XF)) (fun _ hk => hk.1)⟩
   have Xy : Aside0 (Kd.R (Kd.int .i64) 3 (((w37.setCell ⟨Xb, 0, none⟩ (.int .i64 a0_0)).setCell ⟨Xb, 1, none⟩ (.slice XD Xp.length XE)).setCell ⟨Xb, 2, none⟩ (.slice XM Xh.length XF)) w.heap.size (fun k_ => some k_ ≠ (.slice XD Xp.length XE : Value).ownBlock) (.slice XM Xh.length XF) Xh) := ⟨by (with_reducible repeat apply upG); exact Kd.R_mono (Kd.R_far (p := ⟨Xb, 2, none⟩) (Kd.R_far (p := ⟨Xb, 1, none⟩) (Kd.R_far (p := ⟨Xb, 0, none⟩) (Kd.R_types Xl.out Xf.out (by decide)) (fun _ hk => hk.2) (.int .i64 a0_0)) (fun _ hk => hk.2) (.slice XD Xp.length XE)) (fun _ hk => hk.2) (.slice XM Xh.length XF)) (fun _ hk => hk.1)⟩
   have Xz : Aside0 ((((w37.setCell ⟨Xb, 0, none⟩ (.int .i64 a0_0)).setCell ⟨Xb, 1, none⟩ (.slice XD Xp.length XE)).setCell ⟨Xb, 2, none⟩ (.slice XM Xh.length XF)).heap[Xe]? = some (.cells #[.int .i64 a0_0, .slice Xu Xg.length Xs, .slice Xv Xk.length Xt] 31 (0, 0))) := ⟨by (with_reducible repeat apply upF); refine blk_far ?_ Xd.out _; (with_reducible repeat apply upF); refine blk_far ?_ Xd.out _; (with_reducible repeat apply upF); refine blk_far ?_ Xd.out _; exact upB Xa.out⟩
   have XA : Aside0 ((((w37.setCell ⟨Xb, 0, none⟩ (.int .i64 a0_0)).setCell ⟨Xb, 1, none⟩ (.slice XD Xp.length XE)).setCell ⟨Xb, 2, none⟩ (.slice XM Xh.length XF)).heap[Xi]? = some (.cells #[.int .i64 0, .slice none 0 0, .slice none 0 0] 31 (0, 0))) := ⟨by (with_reducible repeat apply upF); refine blk_far ?_ Xm.out _; (with_reducible repeat apply upF); refine blk_far ?_ Xm.out _; (with_reducible repeat apply upF); refine blk_far ?_ Xm.out _; exact upB Xc.out⟩
   have XB : Aside0 ((((w37.setCell ⟨Xb, 0, none⟩ (.int .i64 a0_0)).setCell ⟨Xb, 1, none⟩ (.slice XD Xp.length XE)).setCell ⟨Xb, 2, none⟩ (.slice XM Xh.length XF)).heap[Xb]? = some (.cells #[.int .i64 a0_0, .slice XD Xp.length XE, .slice XM Xh.length XF] 31 (0, 0))) := ⟨by (with_reducible repeat apply upF); refine blk_put (cs := #[.int .i64 a0_0, .slice XD Xp.length XE, .slice none 0 0]) ?_ 2 _ rfl; (with_reducible repeat apply upF); refine blk_put (cs := #[.int .i64 a0_0, .slice none 0 0, .slice none 0 0]) ?_ 1 _ rfl; (with_reducible repeat apply upF); refine blk_put (cs := #[.int .i64 0, .slice none 0 0, .slice none 0 0]) ?_ 0 _ rfl; exact upB Xf.out⟩
   have XC : Aside0 (Below w.heap.size w (((w37.setCell ⟨Xb, 0, none⟩ (.int .i64 a0_0)).setCell ⟨Xb, 1, none⟩ (.slice XD Xp.length XE)).setCell ⟨Xb, 2, none⟩ (.slice XM Xh.length XF))) := ⟨by repeat (first | (with_reducible first | exact HB.out | apply upS | refine below_set ?_ Xn.out | refine below_set ?_ Xo.out | refine below_set ?_ Xw.out) | exact HB.out)⟩
   (try clear Xj)
   (try clear Xl)
   (try clear Xa)
   (try clear Xc)
   (try clear Xf)
   (try clear HB)
   generalize (((w37.setCell ⟨Xb, 0, none⟩ (.int .i64 a0_0)).setCell ⟨Xb, 1, none⟩ (.slice XD Xp.length XE)).setCell ⟨Xb, 2, none⟩ (.slice XM Xh.length XF)) = w46 at Xx Xy Xz XA XB XC ⊢
   have Xj := Xx
   have Xl := Xy
   have Xa := Xz
   have Xc := XA
   have Xf := XB
   have HB := XC
   clear Xx Xy Xz XA XB XC
   (try (rw [drewN_self w46]; generalize hq_ : World.drewN w46 _ = w46; have Xx : Aside0 (Kd.R (Kd.int .i64) 3 w46 w.heap.size (fun k_ => some k_ ≠ (.slice XM Xh.length XF : Value).ownBlock) (.slice XD Xp.length XE) Xp) := ⟨by rw [← hq_]; exact (by (with_reducible repeat apply upG); exact Xj.out)⟩; have Xy : Aside0 (Kd.R (Kd.int .i64) 3 w46 w.heap.size (fun k_ => some k_ ≠ (.slice XD Xp.length XE : Value).ownBlock) (.slice XM Xh.length XF) Xh) := ⟨by rw [← hq_]; exact (by (with_reducible repeat apply upG); exact Xl.out)⟩; have Xz : Aside0 (w46.heap[Xe]? = some (.cells #[.int .i64 a0_0, .slice Xu Xg.length Xs, .slice Xv Xk.length Xt] 31 (0, 0))) := ⟨by rw [← hq_]; exact (by exact upB Xa.out)⟩; have XA : Aside0 (w46.heap[Xi]? = some (.cells #[.int .i64 0, .slice none 0 0, .slice none 0 0] 31 (0, 0))) := ⟨by rw [← hq_]; exact (by exact upB Xc.out)⟩; have XB : Aside0 (w46.heap[Xb]? = some (.cells #[.int .i64 a0_0, .slice XD Xp.length XE, .slice XM Xh.length XF] 31 (0, 0))) := ⟨by rw [← hq_]; exact (by exact upB Xf.out)⟩; have XC : Aside0 (Below w.heap.size w w46) := ⟨by rw [← hq_]; exact (by repeat (first | (with_reducible first | exact HB.out | apply upS | refine below_set ?_ Xn.out | refine below_set ?_ Xo.out | refine below_set ?_ Xw.out) | exact HB.out))⟩; clear Xj Xl Xa Xc Xf HB hq_; have Xj := Xx; have Xl := Xy; have Xa := Xz; have Xc := XA; have Xf := XB; have HB := XC; clear Xx Xy Xz XA XB XC))
   have Xx := Aside0.mk (Kd.R_drew Xj.out)
   have Xy := Aside0.mk (Kd.R_drew Xl.out)
   have Xz := Aside0.mk (blk_drew Xa.out)
   have XA := Aside0.mk (blk_drew Xc.out)
   have XB := Aside0.mk (blk_drew Xf.out)
   have XC := Aside0.mk (below_drew1 HB.out)
   clear Xj
   clear Xl
   clear Xa
   clear Xc
   clear Xf
   clear HB
   have Xj := Xx
   have Xl := Xy
   have Xa := Xz
   have Xc := XA
   have Xf := XB
   have HB := XC
   clear Xx Xy Xz XA XB XC
   have p479 : 0 ≤ (a1 : Int) := of_decide_eq_true (by first | (with_reducible assumption) | assumption)
   have q479 : a1 < (Xg.length : Int) := of_decide_eq_true (by first | (with_reducible assumption) | assumption)
   obtain ⟨ad479, e479, XU⟩ := Kd.at_int XO.out a1 p479 q479
   have X7 := XU
   cases e479
   replace XU := (HB.out.cell (World.block_lt_of_cell? w _ XU)).trans XU
   replace p479 := eq_true p479
   replace q479 := eq_true q479
   have p480 : 0 ≤ (a1 : Int) := of_decide_eq_true (by first | (with_reducible assumption) | assumption)
   have q480 : a1 < (Xk.length : Int) := of_decide_eq_true (by first | (with_reducible assumption) | assumption)
   obtain ⟨ad480, e480, XV⟩ := Kd.at_int XP.out a1 p480 q480
   have X8 := XV
   cases e480
   replace XV := (HB.out.cell (World.block_lt_of_cell? w _ XV)).trans XV
   replace p480 := eq_true p480
   replace q480 := eq_true q480
   refine start_ (n := 17) (S := fun w' => w'.cell? ⟨Xb, 0, none⟩ = some (.int .i64 a0_0) ∧ w'.cell? ⟨Xb, 1, none⟩ = some (.slice XD Xp.length XE) ∧ w'.cell? ⟨Xb, 2, none⟩ = some (.slice XM Xh.length XF) ∧ w'.cell? ⟨Xe, 0, none⟩ = some (.int .i64 a0_0) ∧ w'.cell? ⟨Xe, 1, none⟩ = some (.slice (some ad479) Xg.length Xs) ∧ w'.cell? ⟨Xe, 2, none⟩ = some (.slice (some ad480) Xk.length Xt) ∧ w'.cell? (ad479.add (a1).toNat) = some (.int .i64 (rd Xg a1)) ∧ w'.cell? (ad480.add (a1).toNat) = some (.int .i64 (rd Xk a1))) (ds := [16]) #[false, false, false, false, false, false, false, false, false, false, false, false, false, false, false, false, false] (by kernel_rfl) rfl rfl ⟨(blk_cell Xf.out 0).trans rfl, (blk_cell Xf.out 1).trans rfl, (blk_cell Xf.out 2).trans rfl, (blk_cell Xa.out 0).trans rfl, (blk_cell Xa.out 1).trans rfl, (blk_cell Xa.out 2).trans rfl, ((HB.out.cell (World.block_lt_of_cell? w _ X7)).trans X7), ((HB.out.cell (World.block_lt_of_cell? w _ X8)).trans X8)⟩ (fun hHeld => ?_); refine with_tabW section_Reverse.tab5 section_Reverse.bits5 (fun HT_ HW_ => ?_)
   generalize w46.drew = w47 at Xj Xl Xa Xc Xf HB XU XV hHeld ⊢
   refine pure_ (i := 0) (N := some 35) (v := ?_) (a' := ?_) #[true, false, false, false, false, false, false, false, false, false, false, false, false, false, false, false, false] rfl rfl (any_of HT_.out (by kernel_rfl)) (fun _ _ _ h => h) (Or.inl ⟨by rfl, ?_⟩) ?_ ?_
   rotate_left
   · intro w'; go_simp; with_reducible rfl
   rotate_left
   · simp only [Act.put, List.setIfInBounds_toArray, List.set_cons_zero, List.set_cons_succ, i64_w, i32_w]; rfl
   refine pure_ (i := 2) (N := some 37) (v := ?_) (a' := ?_) #[true, false, true, false, false, false, false, false, false, false, false, false, false, false, false, false, false] rfl rfl (any_of HT_.out (by kernel_rfl)) (fun _ _ _ h => h) (Or.inl ⟨by rfl, ?_⟩) ?_ ?_
   rotate_left
   · intro w'; go_simp; with_reducible rfl
   rotate_left
   · simp only [Act.put, List.setIfInBounds_toArray, List.set_cons_zero, List.set_cons_succ, i64_w, i32_w]; rfl
   refine pure_ (i := 4) (N := some 39) (v := ?_) (a' := ?_) #[true, false, true, false, true, false, false, false, false, false, false, false, false, false, false, false, false] rfl rfl (any_of HT_.out (by kernel_rfl)) (fun _ _ _ h => h) (Or.inl ⟨by rfl, ?_⟩) ?_ ?_
   rotate_left
   · intro w'; go_simp; with_reducible rfl
   rotate_left
   · simp only [Act.put, List.setIfInBounds_toArray, List.set_cons_zero, List.set_cons_succ, i64_w, i32_w]; rfl
   refine pure_ (i := 8) (N := some 43) (v := ?_) (a' := ?_) #[true, false, true, false, true, false, false, false, true, false, false, false, false, false, false, false, false] rfl rfl (any_of HT_.out (by kernel_rfl)) (fun _ _ _ h => h) (Or.inl ⟨by rfl, ?_⟩) ?_ ?_
   rotate_left
   · intro w'; go_simp; with_reducible rfl
   rotate_left
   · simp only [Act.put, List.setIfInBounds_toArray, List.set_cons_zero, List.set_cons_succ, i64_w, i32_w]; rfl
   refine pure_ (i := 10) (N := some 45) (v := ?_) (a' := ?_) #[true, false, true, false, true, false, false, false, true, false, true, false, false, false, false, false, false] rfl rfl (any_of HT_.out (by kernel_rfl)) (fun _ _ _ h => h) (Or.inl ⟨by rfl, ?_⟩) ?_ ?_
   rotate_left
   · intro w'; go_simp; with_reducible rfl
   rotate_left
   · simp only [Act.put, List.setIfInBounds_toArray, List.set_cons_zero, List.set_cons_succ, i64_w, i32_w]; rfl
   refine take_ (i := 1) (N := some 36) (v := ?_) (a' := ?_) #[true, true, true, false, true, false, false, false, true, false, true, false, false, false, false, false, false] rfl rfl (take_ofW HT_.out HW_.out (by kernel_rfl)) (fun _ _ _ h => h) (Or.inl ⟨by rfl, ?_⟩) hHeld ?_ ?_
   rotate_left
   · rintro w' ⟨s0, s1, s2, s3, s4, s5, s6, s7⟩
     go_simp
     with_reducible rfl
   rotate_left
   · simp only [Act.put, List.setIfInBounds_toArray, List.set_cons_zero, List.set_cons_succ, i64_w, i32_w]; rfl
   refine take_ (i := 3) (N := some 38) (v := ?_) (a' := ?_) #[true, true, true, true, true, false, false, false, true, false, true, false, false, false, false, false, false] rfl rfl (take_ofW HT_.out HW_.out (by kernel_rfl)) (fun _ _ _ h => h) (Or.inl ⟨by rfl, ?_⟩) hHeld ?_ ?_
   rotate_left
   · rintro w' ⟨s0, s1, s2, s3, s4, s5, s6, s7⟩
     go_simp
     with_reducible rfl
   rotate_left
   · simp only [Act.put, List.setIfInBounds_toArray, List.set_cons_zero, List.set_cons_succ, i64_w, i32_w]; rfl
   refine pure_ (i := 5) (N := some 40) (v := ?_) (a' := ?_) #[true, true, true, true, true, true, false, false, true, false, true, false, false, false, false, false, false] rfl rfl (any_of HT_.out (by kernel_rfl)) (fun _ _ _ h => h) (Or.inl ⟨by rfl, ?_⟩) ?_ ?_
   rotate_left
   · intro w'; go_simp; with_reducible rfl
   rotate_left
   · simp only [Act.put, List.setIfInBounds_toArray, List.set_cons_zero, List.set_cons_succ, i64_w, i32_w]; rfl
   refine take_ (i := 6) (N := some 41) (v := ?_) (a' := ?_) #[true, true, true, true, true, true, true, false, true, false, true, false, false, false, false, false, false] rfl rfl (take_ofW HT_.out HW_.out (by kernel_rfl)) (fun _ _ _ h => h) (Or.inl ⟨by rfl, ?_⟩) hHeld ?_ ?_
   rotate_left
   · rintro w' ⟨s0, s1, s2, s3, s4, s5, s6, s7⟩
     go_simp
     with_reducible rfl
   rotate_left
   · simp only [Act.put, List.setIfInBounds_toArray, List.set_cons_zero, List.set_cons_succ, i64_w, i32_w]; rfl
   refine pure_ (i := 7) (N := some 42) (v := ?_) (a' := ?_) #[true, true, true, true, true, true, true, true, true, false, true, false, false, false, false, false, false] rfl rfl (any_of HT_.out (by kernel_rfl)) (fun _ _ _ h => h) (Or.inl ⟨by rfl, ?_⟩) ?_ ?_
   rotate_left
   · intro w'; go_simp; with_reducible rfl
   rotate_left
   · simp only [Act.put, List.setIfInBounds_toArray, List.set_cons_zero, List.set_cons_succ, i64_w, i32_w]; rfl
   refine take_ (i := 9) (N := some 44) (v := ?_) (a' := ?_) #[true, true, true, true, true, true, true, true, true, true, true, false, false, false, false, false, false] rfl rfl (take_ofW HT_.out HW_.out (by kernel_rfl)) (fun _ _ _ h => h) (Or.inl ⟨by rfl, ?_⟩) hHeld ?_ ?_
   rotate_left
   · rintro w' ⟨s0, s1, s2, s3, s4, s5, s6, s7⟩
     go_simp
     with_reducible rfl
   rotate_left
   · simp only [Act.put, List.setIfInBounds_toArray, List.set_cons_zero, List.set_cons_succ, i64_w, i32_w]; rfl
   refine pure_ (i := 11) (N := some 46) (v := ?_) (a' := ?_) #[true, true, true, true, true, true, true, true, true, true, true, true, false, false, false, false, false] rfl rfl (any_of HT_.out (by kernel_rfl)) (fun _ _ _ h => h) (Or.inl ⟨by rfl, ?_⟩) ?_ ?_
   rotate_left
   · intro w'; go_simp; with_reducible rfl
   rotate_left
   · simp only [Act.put, List.setIfInBounds_toArray, List.set_cons_zero, List.set_cons_succ, i64_w, i32_w]; rfl
   refine take_ (i := 12) (N := some 47) (v := ?_) (a' := ?_) #[true, true, true, true, true, true, true, true, true, true, true, true, true, false, false, false, false] rfl rfl (take_ofW HT_.out HW_.out (by kernel_rfl)) (fun _ _ _ h => h) (Or.inl ⟨by rfl, ?_⟩) hHeld ?_ ?_
   rotate_left
   · rintro w' ⟨s0, s1, s2, s3, s4, s5, s6, s7⟩
     go_simp
     with_reducible rfl
   rotate_left
   · simp only [Act.put, List.setIfInBounds_toArray, List.set_cons_zero, List.set_cons_succ, i64_w, i32_w]; rfl
   refine pure_ (i := 13) (N := some 48) (v := ?_) (a' := ?_) #[true, true, true, true, true, true, true, true, true, true, true, true, true, true, false, false, false] rfl rfl (any_of HT_.out (by kernel_rfl)) (fun _ _ _ h => h) (Or.inl ⟨by rfl, ?_⟩) ?_ ?_
   rotate_left
   · intro w'; go_simp; with_reducible rfl
   rotate_left
   · simp only [Act.put, List.setIfInBounds_toArray, List.set_cons_zero, List.set_cons_succ, i64_w, i32_w]; rfl
   refine pure_ (i := 14) (N := some 49) (v := ?_) (a' := ?_) #[true, true, true, true, true, true, true, true, true, true, true, true, true, true, true, false, false] rfl rfl (any_of HT_.out (by kernel_rfl)) (fun _ _ _ h => h) (Or.inl ⟨by rfl, ?_⟩) ?_ ?_
   rotate_left
   · intro w'; go_simp; with_reducible rfl
   rotate_left
   · simp only [Act.put, List.setIfInBounds_toArray, List.set_cons_zero, List.set_cons_succ, i64_w, i32_w]; rfl
   refine pure_ (i := 15) (N := some 50) (v := ?_) (a' := ?_) #[true, true, true, true, true, true, true, true, true, true, true, true, true, true, true, true, false] rfl rfl (any_of HT_.out (by kernel_rfl)) (fun _ _ _ h => h) (Or.inl ⟨by rfl, ?_⟩) ?_ ?_
   rotate_left
   · intro w'; go_simp; with_reducible rfl
   rotate_left
   · simp only [Act.put, List.setIfInBounds_toArray, List.set_cons_zero, List.set_cons_succ, i64_w, i32_w]; rfl
   refine last_ (i := 16) (N := none) #[true, true, true, true, true, true, true, true, true, true, true, true, true, true, true, true, true] rfl rfl (one_of HT_.out (by kernel_rfl)) (by decide) (fun K hK => ?_)
   have hs48 : w47.cell? ⟨Xb, 0, none⟩ = some (.int .i64 a0_0) := (blk_cell Xf.out 0).trans rfl
   have hfs48 := blk_frozen Xf.out 0
   have hns48_0 := Xd.out
   have hns48_1 := Xm.out
   have hms48_0 := Xq.out
   have hms48_1 := Xr.out
   refine skip_ (w1 := ?_) (by rfl) rfl ?_ ?_
   rotate_left
   · go_simp
     rfl
   refine hK.out _ _ ?_
   clear hK K
   refine done_ (done_of HT_.out (by kernel_rfl)) ?_
   try go_wp2
   have Xx : Aside0 (Kd.R (Kd.int .i64) 3 (w47.setCell ⟨Xb, 0, none⟩ (.int .i64 (wrap64 (a0_0 + (wrap64 ((wrap64 ((rd Xg a1) - 1)) * (rd Xk a1))))))) w.heap.size (fun k_ => some k_ ≠ (.slice XM Xh.length XF : Value).ownBlock) (.slice XD Xp.length XE) Xp) := ⟨by (with_reducible repeat apply upG); exact Kd.R_mono (Kd.R_far (p := ⟨Xb, 0, none⟩) (Kd.R_types Xj.out Xf.out (by decide)) (fun _ hk => hk.2) (.int .i64 (wrap64 (a0_0 + (wrap64 ((wrap64 ((rd Xg a1) - 1)) * (rd Xk a1))))))) (fun _ hk => hk.1)⟩
   have Xy : Aside0 (Kd.R (Kd.int .i64) 3 (w47.setCell ⟨Xb, 0, none⟩ (.int .i64 (wrap64 (a0_0 + (wrap64 ((wrap64 ((rd Xg a1) - 1)) * (rd Xk a1))))))) w.heap.size (fun k_ => some k_ ≠ (.slice XD Xp.length XE : Value).ownBlock) (.slice XM Xh.length XF) Xh) := ⟨by (with_reducible repeat apply upG); exact Kd.R_mono (Kd.R_far (p := ⟨Xb, 0, none⟩) (Kd.R_types Xl.out Xf.out (by decide)) (fun _ hk => hk.2) (.int .i64 (wrap64 (a0_0 + (wrap64 ((wrap64 ((rd Xg a1) - 1)) * (rd Xk a1))))))) (fun _ hk => hk.1)⟩
   have Xz : Aside0 ((w47.setCell ⟨Xb, 0, none⟩ (.int .i64 (wrap64 (a0_0 + (wrap64 ((wrap64 ((rd Xg a1) - 1)) * (rd Xk a1))))))).heap[Xe]? = some (.cells #[.int .i64 a0_0, .slice (some ad479) Xg.length Xs, .slice (some ad480) Xk.length Xt] 31 (0, 0))) := ⟨by (with_reducible repeat apply upF); refine blk_far ?_ Xd.out _; exact upB Xa.out⟩
   have XA : Aside0 ((w47.setCell ⟨Xb, 0, none⟩ (.int .i64 (wrap64 (a0_0 + (wrap64 ((wrap64 ((rd Xg a1) - 1)) * (rd Xk a1))))))).heap[Xi]? = some (.cells #[.int .i64 0, .slice none 0 0, .slice none 0 0] 31 (0, 0))) := ⟨by (with_reducible repeat apply upF); refine blk_far ?_ Xm.out _; exact upB Xc.out⟩
   have XB : Aside0 ((w47.setCell ⟨Xb, 0, none⟩ (.int .i64 (wrap64 (a0_0 + (wrap64 ((wrap64 ((rd Xg a1) - 1)) * (rd Xk a1))))))).heap[Xb]? = some (.cells #[.int .i64 (wrap64 (a0_0 + (wrap64 ((wrap64 ((rd Xg a1) - 1)) * (rd Xk a1))))), .slice XD Xp.length XE, .slice XM Xh.length XF] 31 (0, 0))) := ⟨by (with_reducible repeat apply upF); refine blk_put (cs := #[.int .i64 a0_0, .slice XD Xp.length XE, .slice XM Xh.length XF]) ?_ 0 _ rfl; exact upB Xf.out⟩
   have XC : Aside0 (Below w.heap.size w (w47.setCell ⟨Xb, 0, none⟩ (.int .i64 (wrap64 (a0_0 + (wrap64 ((wrap64 ((rd Xg a1) - 1)) * (rd Xk a1)))))))) := ⟨by repeat (first | (with_reducible first | exact HB.out | apply upS | refine below_set ?_ Xn.out | refine below_set ?_ Xo.out | refine below_set ?_ Xw.out) | exact HB.out)⟩
   (try clear Xj)
   (try clear Xl)
   (try clear Xa)
   (try clear Xc)
   (try clear Xf)
   (try clear HB)
   generalize (w47.setCell ⟨Xb, 0, none⟩ (.int .i64 (wrap64 (a0_0 + (wrap64 ((wrap64 ((rd Xg a1) - 1)) * (rd Xk a1))))))) = w49 at Xx Xy Xz XA XB XC ⊢
   have Xj := Xx
   have Xl := Xy
   have Xa := Xz
   have Xc := XA
   have Xf := XB
   have HB := XC
   clear Xx Xy Xz XA XB XC
   have Xx := Aside0.mk (Kd.R_drew Xj.out)
   have Xy := Aside0.mk (Kd.R_drew Xl.out)
   have Xz := Aside0.mk (blk_drew Xa.out)
   have XA := Aside0.mk (blk_drew Xc.out)
   have XB := Aside0.mk (blk_drew Xf.out)
   have XC := Aside0.mk (below_drew1 HB.out)
   clear Xj
   clear Xl
   clear Xa
   clear Xc
   clear Xf
   clear HB
   have Xj := Xx
   have Xl := Xy
   have Xa := Xz
   have Xc := XA
   have Xf := XB
   have HB := XC
   clear Xx Xy Xz XA XB XC
   have p481 : 0 ≤ (a1 : Int) := of_decide_eq_true (by first | (with_reducible assumption) | assumption)
   have q481 : a1 < (Xh.length : Int) := of_decide_eq_true (by first | (with_reducible assumption) | assumption)
   obtain ⟨ad481, e481, X4⟩ := Kd.at_int (Kd.R_reads' Xl.out).2.2 a1 p481 q481
   cases e481
   replace p481 := eq_true p481
   replace q481 := eq_true q481
   have p30 : 0 ≤ (a1 : Int) := of_decide_eq_true (by first | (with_reducible assumption) | assumption)
   have q30 : (a1 : Int) < ((Xh.length : Int) : Int) := of_decide_eq_true (by first | (with_reducible assumption) | assumption)
   obtain ⟨go30, Vi, eo30, YS, gl30, cl30, HG30⟩ := Kd.R_form Xl.out (by omega)
   (first | cases eo30 | (injection eo30 with ea_ en_ ec_; (first | subst ea_ | (injection ea_ with ea_; subst ea_)); subst ec_; clear en_))
   have GB30 := Aside0.mk YS
   have GG30 := Aside0.mk HG30
   clear YS gl30 HG30
   (first | simp only [add_plain] at X4 | skip)
   obtain ⟨YK, hf30_0⟩ := Kd.R_celln 0 Xl.out (a1 : Int) p30 q30
   replace p30 := eq_true p30
   replace q30 := eq_true q30
   have HP51 := Kd.R_putn Xl.out (a1 : Int) (wrap64 (-(rd Xh a1)))
   rw [← Ny482.out] at HP51
   have HQ51 := Aside0.mk HP51
   clear HP51
   refine start_ (n := 11) (S := fun w' => w'.cell? ⟨Xb, 0, none⟩ = some (.int .i64 (wrap64 (a0_0 + (wrap64 ((wrap64 ((rd Xg a1) - 1)) * (rd Xk a1)))))) ∧ w'.cell? ⟨Xb, 1, none⟩ = some (.slice XD Xp.length XE) ∧ w'.cell? ⟨Xb, 2, none⟩ = some (.slice (some ⟨go30, 0, none⟩) Xh.length XF) ∧ w'.cell? ⟨go30, (a1).toNat, none⟩ = some (.int .i64 (rd Xh a1))) (ds := [10]) #[false, false, false, false, false, false, false, false, false, false, false] (by kernel_rfl) rfl rfl ⟨(blk_cell Xf.out 0).trans rfl, (blk_cell Xf.out 1).trans rfl, (blk_cell Xf.out 2).trans rfl, X4⟩ (fun hHeld => ?_); refine with_tabW section_Reverse.tab6 section_Reverse.bits6 (fun HT_ HW_ => ?_)
   generalize w49.drew = w50 at Xj Xl Xa Xc Xf HB GG30 HQ51 hf30_0 YK X4 hHeld ⊢
   refine pure_ (i := 0) (N := some 51) (v := ?_) (a' := ?_) #[true, false, false, false, false, false, false, false, false, false, false] rfl rfl (any_of HT_.out (by kernel_rfl)) (fun _ _ _ h => h) (Or.inl ⟨by rfl, ?_⟩) ?_ ?_
   rotate_left
   · intro w'; go_simp; with_reducible rfl
   rotate_left
   · simp only [Act.put, List.setIfInBounds_toArray, List.set_cons_zero, List.set_cons_succ, i64_w, i32_w]; rfl
   refine pure_ (i := 2) (N := some 53) (v := ?_) (a' := ?_) #[true, false, true, false, false, false, false, false, false, false, false] rfl rfl (any_of HT_.out (by kernel_rfl)) (fun _ _ _ h => h) (Or.inl ⟨by rfl, ?_⟩) ?_ ?_
   rotate_left
   · intro w'; go_simp; with_reducible rfl
   rotate_left
   · simp only [Act.put, List.setIfInBounds_toArray, List.set_cons_zero, List.set_cons_succ, i64_w, i32_w]; rfl
   refine pure_ (i := 3) (N := some 54) (v := ?_) (a' := ?_) #[true, false, true, true, false, false, false, false, false, false, false] rfl rfl (any_of HT_.out (by kernel_rfl)) (fun _ _ _ h => h) (Or.inl ⟨by rfl, ?_⟩) ?_ ?_
   rotate_left
   · intro w'; go_simp; with_reducible rfl
   rotate_left
   · simp only [Act.put, List.setIfInBounds_toArray, List.set_cons_zero, List.set_cons_succ, i64_w, i32_w]; rfl
   refine pure_ (i := 5) (N := some 56) (v := ?_) (a' := ?_) #[true, false, true, true, false, true, false, false, false, false, false] rfl rfl (any_of HT_.out (by kernel_rfl)) (fun _ _ _ h => h) (Or.inl ⟨by rfl, ?_⟩) ?_ ?_
   rotate_left
   · intro w'; go_simp; with_reducible rfl
   rotate_left
   · simp only [Act.put, List.setIfInBounds_toArray, List.set_cons_zero, List.set_cons_succ, i64_w, i32_w]; rfl
   refine take_ (i := 1) (N := some 52) (v := ?_) (a' := ?_) #[true, true, true, true, false, true, false, false, false, false, false] rfl rfl (take_ofW HT_.out HW_.out (by kernel_rfl)) (fun _ _ _ h => h) (Or.inl ⟨by rfl, ?_⟩) hHeld ?_ ?_
   rotate_left
   · rintro w' ⟨s0, s1, s2, s3⟩
     go_simp
     with_reducible rfl
   rotate_left
   · simp only [Act.put, List.setIfInBounds_toArray, List.set_cons_zero, List.set_cons_succ, i64_w, i32_w]; rfl
   refine take_ (i := 4) (N := some 55) (v := ?_) (a' := ?_) #[true, true, true, true, true, true, false, false, false, false, false] rfl rfl (take_ofW HT_.out HW_.out (by kernel_rfl)) (fun _ _ _ h => h) (Or.inl ⟨by rfl, ?_⟩) hHeld ?_ ?_
   rotate_left
   · rintro w' ⟨s0, s1, s2, s3⟩
     go_simp
     with_reducible rfl
   rotate_left
   · simp only [Act.put, List.setIfInBounds_toArray, List.set_cons_zero, List.set_cons_succ, i64_w, i32_w]; rfl
   refine pure_ (i := 6) (N := some 57) (v := ?_) (a' := ?_) #[true, true, true, true, true, true, true, false, false, false, false] rfl rfl (any_of HT_.out (by kernel_rfl)) (fun _ _ _ h => h) (Or.inl ⟨by rfl, ?_⟩) ?_ ?_
   rotate_left
   · intro w'; go_simp; with_reducible rfl
   rotate_left
   · simp only [Act.put, List.setIfInBounds_toArray, List.set_cons_zero, List.set_cons_succ, i64_w, i32_w]; rfl
   refine take_ (i := 7) (N := some 58) (v := ?_) (a' := ?_) #[true, true, true, true, true, true, true, true, false, false, false] rfl rfl (take_ofW HT_.out HW_.out (by kernel_rfl)) (fun _ _ _ h => h) (Or.inl ⟨by rfl, ?_⟩) hHeld ?_ ?_
   rotate_left
   · rintro w' ⟨s0, s1, s2, s3⟩
     go_simp
     with_reducible rfl
   rotate_left
   · simp only [Act.put, List.setIfInBounds_toArray, List.set_cons_zero, List.set_cons_succ, i64_w, i32_w]; rfl
   refine pure_ (i := 8) (N := some 59) (v := ?_) (a' := ?_) #[true, true, true, true, true, true, true, true, true, false, false] rfl rfl (any_of HT_.out (by kernel_rfl)) (fun _ _ _ h => h) (Or.inl ⟨by rfl, ?_⟩) ?_ ?_
   rotate_left
   · intro w'; go_simp; with_reducible rfl
   rotate_left
   · simp only [Act.put, List.setIfInBounds_toArray, List.set_cons_zero, List.set_cons_succ, i64_w, i32_w]; rfl
   refine pure_ (i := 9) (N := some 60) (v := ?_) (a' := ?_) #[true, true, true, true, true, true, true, true, true, true, false] rfl rfl (any_of HT_.out (by kernel_rfl)) (fun _ _ _ h => h) (Or.inl ⟨by rfl, ?_⟩) ?_ ?_
   rotate_left
   · intro w'; go_simp; with_reducible rfl
   rotate_left
   · simp only [Act.put, List.setIfInBounds_toArray, List.set_cons_zero, List.set_cons_succ, i64_w, i32_w]; rfl
   refine last_ (i := 10) (N := none) #[true, true, true, true, true, true, true, true, true, true, true] rfl rfl (one_of HT_.out (by kernel_rfl)) (by decide) (fun K hK => ?_)
   refine skip_ (w1 := ?_) (by rfl) rfl ?_ ?_
   rotate_left
   · go_simp
     rfl
   refine hK.out _ _ ?_
   clear hK K
   refine done_ (done_of HT_.out (by kernel_rfl)) ?_
   have Xx : Aside0 (Kd.R (Kd.int .i64) 3 (w50.setCell ⟨go30, (a1 : Int).toNat, none⟩ (.int .i64 (wrap64 (-(rd Xh a1))))) w.heap.size (fun k_ => some k_ ≠ (.slice (some ⟨go30, 0, none⟩) Xh.length XF : Value).ownBlock) (.slice XD Xp.length XE) Xp) := ⟨by (with_reducible repeat apply upG); exact Kd.R_mono (Kd.R_far (p := ⟨go30, (a1 : Int).toNat, none⟩) (Kd.R_mono Xj.out (fun k_ hk => (⟨hk, fun e_ => hk (by rw [e_]; rfl)⟩ : _ ∧ k_ ≠ go30))) (fun _ hk => hk.2) (.int .i64 (wrap64 (-(rd Xh a1))))) (fun _ hk => hk.1)⟩
   have Xy : Aside0 (Kd.R (Kd.int .i64) 3 (w50.setCell ⟨go30, (a1 : Int).toNat, none⟩ (.int .i64 (wrap64 (-(rd Xh a1))))) w.heap.size (fun k_ => some k_ ≠ (.slice XD Xp.length XE : Value).ownBlock) (.slice (some ⟨go30, 0, none⟩) Xh.length XF) y482) := ⟨by (with_reducible repeat apply upG); exact HQ51.out⟩
   have Xz : Aside0 ((w50.setCell ⟨go30, (a1 : Int).toNat, none⟩ (.int .i64 (wrap64 (-(rd Xh a1))))).heap[Xe]? = some (.cells #[.int .i64 a0_0, .slice (some ad479) Xg.length Xs, .slice (some ad480) Xk.length Xt] 31 (0, 0))) := ⟨by (with_reducible repeat apply upF); refine blk_far ?_ (by have h_ := Kd.R_ne Xl.out Xa.out (by decide); intro e_; exact h_ (by rw [e_]; rfl)) _; exact upB Xa.out⟩
   have XA : Aside0 ((w50.setCell ⟨go30, (a1 : Int).toNat, none⟩ (.int .i64 (wrap64 (-(rd Xh a1))))).heap[Xi]? = some (.cells #[.int .i64 0, .slice none 0 0, .slice none 0 0] 31 (0, 0))) := ⟨by (with_reducible repeat apply upF); refine blk_far ?_ (by have h_ := Kd.R_ne Xl.out Xc.out (by decide); intro e_; exact h_ (by rw [e_]; rfl)) _; exact upB Xc.out⟩
   have XB : Aside0 ((w50.setCell ⟨go30, (a1 : Int).toNat, none⟩ (.int .i64 (wrap64 (-(rd Xh a1))))).heap[Xb]? = some (.cells #[.int .i64 (wrap64 (a0_0 + (wrap64 ((wrap64 ((rd Xg a1) - 1)) * (rd Xk a1))))), .slice XD Xp.length XE, .slice (some ⟨go30, 0, none⟩) Xh.length XF] 31 (0, 0))) := ⟨by (with_reducible repeat apply upF); refine blk_far ?_ (by have h_ := Kd.R_ne Xl.out Xf.out (by decide); intro e_; exact h_ (by rw [e_]; rfl)) _; exact upB Xf.out⟩
   have XC : Aside0 (Below w.heap.size w (w50.setCell ⟨go30, (a1 : Int).toNat, none⟩ (.int .i64 (wrap64 (-(rd Xh a1)))))) := ⟨by repeat (first | (with_reducible first | exact HB.out | apply upS | refine below_set ?_ GB30.out | refine below_set ?_ Xn.out | refine below_set ?_ Xo.out | refine below_set ?_ Xw.out) | exact HB.out)⟩
   (try clear Xj)
   (try clear Xl)
   (try clear Xa)
   (try clear Xc)
   (try clear Xf)
   (try clear HB)
   generalize (w50.setCell ⟨go30, (a1 : Int).toNat, none⟩ (.int .i64 (wrap64 (-(rd Xh a1))))) = w52 at Xx Xy Xz XA XB XC ⊢
   have Xj := Xx
   have Xl := Xy
   have Xa := Xz
   have Xc := XA
   have Xf := XB
   have HB := XC
   clear Xx Xy Xz XA XB XC
   have Vc := Xr.out
   have Vd := Xm.out
   have Zv : w52.cell? ⟨Xb, 0, none⟩ = some (.int .i64 (wrap64 (a0_0 + (wrap64 ((wrap64 ((rd Xg a1) - 1)) * (rd Xk a1)))))) := (blk_cell Xf.out 0).trans rfl
   have Zw : w52.cell? ⟨Xb, 1, none⟩ = some (.slice XD Xp.length XE) := (blk_cell Xf.out 1).trans rfl
   have Zx : w52.cell? ⟨Xb, 2, none⟩ = some (.slice (some ⟨go30, 0, none⟩) Xh.length XF) := (blk_cell Xf.out 2).trans rfl
   have Zy := blk_frozen Xf.out 0
   have Zz := blk_frozen Xf.out 1
   have ZA := blk_frozen Xf.out 2
   have ZB : w52.cell? ⟨Xi, 0, none⟩ = some (.int .i64 0) := (blk_cell Xc.out 0).trans rfl
   have ZC : w52.cell? ⟨Xi, 1, none⟩ = some (.slice none 0 0) := (blk_cell Xc.out 1).trans rfl
   have ZD : w52.cell? ⟨Xi, 2, none⟩ = some (.slice none 0 0) := (blk_cell Xc.out 2).trans rfl
   have ZE := blk_frozen Xc.out 0
   have ZF := blk_frozen Xc.out 1
   have ZG := blk_frozen Xc.out 2
   try go_wp2
   refine bodyPost_ret (results_ct rfl _ _ Xi 31 #[.int .i64 (wrap64 (a0_0 + (wrap64 ((wrap64 ((rd Xg a1) - 1)) * (rd Xk a1))))), .slice XD Xp.length XE, .slice (some ⟨go30, 0, none⟩) Xh.length XF] (0, 0) _ rfl (by (with_reducible repeat apply upF); refine blk_put (cs := #[.int .i64 (wrap64 (a0_0 + (wrap64 ((wrap64 ((rd Xg a1) - 1)) * (rd Xk a1))))), .slice XD Xp.length XE, .slice none 0 0]) ?_ 2 _ rfl; (with_reducible repeat apply upF); refine blk_put (cs := #[.int .i64 (wrap64 (a0_0 + (wrap64 ((wrap64 ((rd Xg a1) - 1)) * (rd Xk a1))))), .slice none 0 0, .slice none 0 0]) ?_ 1 _ rfl; (with_reducible repeat apply upF); refine blk_put (cs := #[.int .i64 0, .slice none 0 0, .slice none 0 0]) ?_ 0 _ rfl; exact upB Xc.out) Try.underlying31 rfl (by kernel_rfl)) rfl ?_
   exact ⟨_, _, by first | rfl | (simp [errW_none, errW_some] <;> rfl) | (simp [*, errW_none, errW_some] <;> rfl), by (with_reducible repeat apply upG); exact Kd.R_mono (Kd.R_far (p := ⟨Xi, 2, none⟩) (Kd.R_far (p := ⟨Xi, 1, none⟩) (Kd.R_far (p := ⟨Xi, 0, none⟩) (Kd.R_types Xj.out Xc.out (by decide)) (fun _ hk => hk.2) (.int .i64 (wrap64 (a0_0 + (wrap64 ((wrap64 ((rd Xg a1) - 1)) * (rd Xk a1))))))) (fun _ hk => hk.2) (.slice XD Xp.length XE)) (fun _ hk => hk.2) (.slice (some ⟨go30, 0, none⟩) Xh.length XF)) (fun _ hk => hk.1), by (with_reducible repeat apply upG); exact Kd.R_mono (Kd.R_far (p := ⟨Xi, 2, none⟩) (Kd.R_far (p := ⟨Xi, 1, none⟩) (Kd.R_far (p := ⟨Xi, 0, none⟩) (Kd.R_types Xl.out Xc.out (by decide)) (fun _ hk => hk.2) (.int .i64 (wrap64 (a0_0 + (wrap64 ((wrap64 ((rd Xg a1) - 1)) * (rd Xk a1))))))) (fun _ hk => hk.2) (.slice XD Xp.length XE)) (fun _ hk => hk.2) (.slice (some ⟨go30, 0, none⟩) Xh.length XF)) (fun _ hk => hk.1), by repeat (first | (with_reducible first | exact HB.out | apply upS | refine below_set ?_ Xn.out | refine below_set ?_ Xo.out | refine below_set ?_ Xw.out) | exact HB.out)⟩

end Go.Proofs.Yticjlkommabcjaa.PS
