-- Printed by wip/qprint.py of this repository, over the kit's print, out of the translation. Not trusted: Lean checks it.
import Derived.Test.YticjlkommabcjaaPSx0
import Derived.Test.YticjlkommabcjaaPSx11
import Derived.Test.YticjlkommabcjaaPSx13
import Derived.Test.YticjlkommabcjaaPSx33
import Derived.Test.YticjlkommabcjaaUp
namespace Go.Proofs.Yticjlkommabcjaa.PS
open Go.RowKit Go.Proofs.YticjlkommabcjaaW.PrintWords Go.Proofs.YticjlkommabcjaaW.PrintLast Go.Proofs.YticjlkommabcjaaW.PrintMore
attribute [local go_sem] max2_int min2_int max_two min_two max_three min_three max_four min_four   -- for this text's walks alone
set_option linter.unusedVariables false
set_option linter.unusedSimpArgs false
set_option maxRecDepth 100000

/-! ### quadratref06_Reverse: function 38 -/
def quadratref06_Reverse.j0 : Nat → Int → Bool → Int → List Int → List Int → Option (Int × List Int × List Int × Int)
  | 0, _, _, _, _, _ => none
  | k + 1, x1, Vu, X9, XX, XM => if Vu = true then (some (0, ([] : List Int), ([] : List Int), 2)) else ((quadratref06_Copy.f X9 XX XM).bind fun XB => ((quadratref06_size.f k XX).bind fun XW => (if XW > 0 then (if 0 ≤ x1 then (if x1 < (XX.length : Int) then (if x1 < (XM.length : Int) then (if x1 < (XB.2.2.length : Int) then (some (wrap64 (XB.1 + (wrap64 ((wrap64 ((rd XX x1) - 1)) * (rd XM x1)))), XB.2.1, (XB.2.2.set (x1 : Int).toNat (wrap64 (-(rd XM x1)))), 0)) else (none)) else (none)) else (none)) else (none)) else (if 0 ≤ x1 then (if x1 < (XM.length : Int) then (if x1 < (XB.2.2.length : Int) then (some (XB.1, XB.2.1, (XB.2.2.set (x1 : Int).toNat (wrap64 (-(rd XM x1)))), 0)) else (none)) else (none)) else (none)))))
def quadratref06_Reverse.f (k : Nat) (a0_0 : Int) (Xf : List Int) (Xd : List Int) (a1 : Int) : Option (Int × List Int × List Int × Int) := (quadratref06_Valid.f k a0_0 Xf Xd).bind fun X5 => (if X5 = true then (if a1 < 0 then (quadratref06_Reverse.j0 k a1 true a0_0 Xf Xd) else (quadratref06_Reverse.j0 k a1 (decide (a1 ≥ (Xf.length : Int))) a0_0 Xf Xd)) else (quadratref06_Reverse.j0 k a1 true a0_0 Xf Xd))
theorem quadratref06_Reverse.mono_l : ∀ k, (∀ y0 y1 y2 y3 y4, LeO (quadratref06_Reverse.j0 k y0 y1 y2 y3 y4) (quadratref06_Reverse.j0 (k + 1) y0 y1 y2 y3 y4))
  | 0 => fun _ _ _ _ _ r h => by simp [quadratref06_Reverse.j0] at h
  | k + 1 => by
    have ih0 := quadratref06_Reverse.mono_l k
    · intro y0 y1 y2 y3 y4
      unfold quadratref06_Reverse.j0
      repeat' first
      | (with_reducible exact ih0 _ _ _ _ _)
      | (with_reducible exact quadratref06_Valid.mono _ _ _ _)
      | (with_reducible exact quadratref06_size.mono _ _)
      | (with_reducible exact LeO.refl _)
      | (with_reducible exact LeO.none _)
      | (with_reducible refine LeO.ite ?_ ?_)
      | (with_reducible refine LeO.bind ?_ (fun _ => ?_))
      | exact ih0 _ _ _ _ _
      | exact quadratref06_Valid.mono _ _ _ _
      | exact quadratref06_size.mono _ _
      | exact LeO.none _
      | refine LeO.ite ?_ ?_
      | refine LeO.bind ?_ (fun _ => ?_)
theorem quadratref06_Reverse.mono : ∀ a0 a1 a2 a3 k, LeO (quadratref06_Reverse.f k a0 a1 a2 a3) (quadratref06_Reverse.f (k + 1) a0 a1 a2 a3) := by
  intro a0 a1 a2 a3 k
  have ih0 := quadratref06_Reverse.mono_l k
  unfold quadratref06_Reverse.f
  repeat' first
      | (with_reducible exact ih0 _ _ _ _ _)
      | (with_reducible exact quadratref06_Valid.mono _ _ _ _)
      | (with_reducible exact quadratref06_size.mono _ _)
      | (with_reducible exact LeO.refl _)
      | (with_reducible exact LeO.none _)
      | (with_reducible refine LeO.ite ?_ ?_)
      | (with_reducible refine LeO.bind ?_ (fun _ => ?_))
      | exact ih0 _ _ _ _ _
      | exact quadratref06_Valid.mono _ _ _ _
      | exact quadratref06_size.mono _ _
      | exact LeO.none _
      | refine LeO.ite ?_ ?_
      | refine LeO.bind ?_ (fun _ => ?_)
def quadratref06_Reverse.T5 : Bool × List (List Nat × List Nat) := (true, [([], []), ([0], [0]), ([], []), ([2], [2]), ([], []), ([3, 4], [3, 4]), ([5], [5]), ([6], [6]), ([], []), ([8], [8]), ([], []), ([9, 10], [9, 10]), ([11], [11]), ([7, 12], [7, 12]), ([1, 13], [1, 13]), ([0, 1, 2, 3, 4, 5, 6, 7, 8, 9, 10, 11, 12, 13, 14], []), ([15, 14, 0, 1, 2, 3, 4, 5, 6, 7, 8, 9, 10, 11, 12, 13, 14], [14, 15])])
def quadratref06_Reverse.B5 : List Nat := [0, 1, 0, 4, 0, 28, 60, 124, 0, 256, 0, 1792, 3840, 8188, 16383, 32767, 65535]
theorem quadratref06_Reverse.tab5 : rtab .any (opsOf Try.f38 5) = quadratref06_Reverse.T5 := by kernel_rfl
theorem quadratref06_Reverse.bits5 : waitsOk quadratref06_Reverse.T5.2 quadratref06_Reverse.B5 = true := by kernel_rfl
def quadratref06_Reverse.T6 : Bool × List (List Nat × List Nat) := (true, [([], []), ([0], [0]), ([], []), ([], []), ([3], [3]), ([], []), ([4, 5], [4, 5]), ([6], [6]), ([7], [7]), ([1, 2, 0, 1, 2, 3, 4, 5, 6, 7, 8], [1, 2]), ([9, 8, 0, 1, 2, 3, 4, 5, 6, 7, 8], [8, 9])])
def quadratref06_Reverse.B6 : List Nat := [0, 1, 0, 0, 8, 0, 56, 120, 248, 511, 1023]
theorem quadratref06_Reverse.tab6 : rtab .any (opsOf Try.f38 6) = quadratref06_Reverse.T6 := by kernel_rfl
theorem quadratref06_Reverse.bits6 : waitsOk quadratref06_Reverse.T6.2 quadratref06_Reverse.B6 = true := by kernel_rfl
set_option maxHeartbeats 8000000 in
set_option maxRecDepth 100000 in
theorem quadratref06_Reverse.calls (k : Nat) (a0_0 : Int) (Xt : Option Addr) (Xp : Nat) (Xf : List Int) (Xu : Option Addr) (Xq : Nat) (Xd : List Int) (a1 : Int) (r1 : Int) (r2 : List Int) (r3 : List Int) (r4 : Int) (w : World) (hr0_1 : Kd.C (Kd.int .i64) w Xt Xf.length Xf) (hc0_1 : Xf.length ≤ Xp) (hr0_2 : Kd.C (Kd.int .i64) w Xu Xd.length Xd) (hc0_2 : Xd.length ≤ Xq) (h : quadratref06_Reverse.f k a0_0 Xf Xd a1 = some (r1, r2, r3, r4)) :
    Calls Try.prog 38 #[.agg #[.int .i64 a0_0, .slice Xt Xf.length Xp, .slice Xu Xd.length Xq], .int .i64 a1] w fun e w' => ∃ v1_ v2_ : Value, e = .returned (.tuple #[.agg #[.int .i64 r1, v1_, v2_], .int .i64 r4]) ∧ Kd.R (Kd.int .i64) 3 w' w.heap.size (fun k_ => some k_ ≠ (v2_ : Value).ownBlock) v1_ r2 ∧ Kd.R (Kd.int .i64) 3 w' w.heap.size (fun k_ => some k_ ≠ (v1_ : Value).ownBlock) v2_ r3 ∧ Below w.heap.size w w' := by
  have hu31 := Try.underlying31
  have XU := Aside0.mk hr0_1
  have XY := Aside0.mk hc0_1
  clear hr0_1 hc0_1
  have XV := Aside0.mk hr0_2
  have XZ := Aside0.mk hc0_2
  clear hr0_2 hc0_2
  have HB := Aside0.mk (Below.refl w.heap.size w)
  have H : ((quadratref06_Valid.f k a0_0 Xf Xd).bind fun X5 => (if X5 = true then (if a1 < 0 then (quadratref06_Reverse.j0 k a1 true a0_0 Xf Xd) else (quadratref06_Reverse.j0 k a1 (decide (a1 ≥ (Xf.length : Int))) a0_0 Xf Xd)) else (quadratref06_Reverse.j0 k a1 true a0_0 Xf Xd))) = some (r1, r2, r3, r4) := h
  clear h
  have ZZ := Aside0.mk H
  clear H
  go_enter Try.func38, Try.ntmps38
  go_upto_region 1 with (first | ((with_reducible refine gate_dst (N := 2) rfl ?_); (try (refine gate_guard (by rfl) ?_; dsimp only)); refine box_event ?hg (N := 2) ?hd (cs := #[.int .i64 a0_0, .slice Xt Xf.length Xp, .slice Xu Xd.length Xq]) (t := 31) ?hr ?_; (case hd => rfl); (case hg => rfl); (case hr => first | (go_simp; done) | (go_simp; rfl)); intro Xg hg w4 hbox hb; have Xv := Aside0.mk (below_step (by exact upL HB.out) hb); have Xw := Aside0.mk (hbox); have Xx := Aside0.mk ((by rw [hg]; exact (below_size (by exact upL HB.out)) : w.heap.size ≤ Xg)); have XC := Aside0.mk ((by rw [hg]; exact (below_size (by exact upL HB.out)) : w.heap.size ≤ Xg)); clear HB; have HB := Xv; have Xa := Xw; have Z0 := Xx; have Xn := XC; clear Xv Xw Xx XC; clear hb hbox hg) | ((with_reducible refine gate_dst (N := 4) rfl ?_); (try (refine gate_guard (by rfl) ?_; dsimp only)); refine box_event ?hg (N := 4) ?hd (cs := #[.int .i64 0, .slice none 0 0, .slice none 0 0]) (t := 31) ?hr ?_; (case hd => rfl); (case hg => rfl); (case hr => first | (go_simp; done) | (go_simp; rfl)); intro Xi hg w5 hbox hb; have Xv := Aside0.mk (blk_below (g := Xg) (o := .cells #[.int .i64 a0_0, .slice Xt Xf.length Xp, .slice Xu Xd.length Xq] 31 (0, 0)) (by exact upB Xa.out) hb); have Xw := Aside0.mk (below_step (by repeat (first | (with_reducible first | exact HB.out | apply upS | refine below_set ?_ Xn.out) | exact HB.out)) hb); have Xx := Aside0.mk (hbox); have XC := Aside0.mk ((by rw [hg]; exact (below_size (by repeat (first | (with_reducible first | exact HB.out | apply upS | refine below_set ?_ Xn.out) | exact HB.out))) : w.heap.size ≤ Xi)); have XF := Aside0.mk ((by rw [hg]; exact (below_size (by repeat (first | (with_reducible first | exact HB.out | apply upS | refine below_set ?_ Xn.out) | exact HB.out))) : w.heap.size ≤ Xi)); have XJ := Aside0.mk ((by rw [hg]; exact Nat.ne_of_lt (blk_lt (g := Xg) (o := .cells #[.int .i64 a0_0, .slice Xt Xf.length Xp, .slice Xu Xd.length Xq] 31 (0, 0)) (by exact upB Xa.out)) : Xg ≠ Xi)); have Yy := Aside0.mk ((by rw [hg]; exact Nat.ne_of_gt (blk_lt (g := Xg) (o := .cells #[.int .i64 a0_0, .slice Xt Xf.length Xp, .slice Xu Xd.length Xq] 31 (0, 0)) (by exact upB Xa.out)) : Xi ≠ Xg)); clear Xa; clear HB; have Xa := Xv; have HB := Xw; have Xc := Xx; have Z1 := XC; have Xo := XF; have XG := XJ; have XH := Yy; clear Xv Xw Xx XC XF XJ Yy; clear hb hbox hg))
  (try simp only [Act.put, List.setIfInBounds_toArray, List.set_cons_zero, List.set_cons_succ])
  go_cut [20] (fun v20 wc => ∃ (kq : Nat) (X0 : Bool), v20 = .bool X0 ∧ Aside0 (quadratref06_Reverse.j0 kq a1 X0 a0_0 Xf Xd = some (r1, r2, r3, r4)) ∧ Aside0 (kq ≤ k) ∧ Aside0 (wc.heap[Xg]? = some (.cells #[.int .i64 a0_0, (.slice Xt Xf.length Xp), (.slice Xu Xd.length Xq)] 31 (0, 0))) ∧ Aside0 (wc.heap[Xi]? = some (.cells #[.int .i64 0, (.slice none 0 0), (.slice none 0 0)] 31 (0, 0))) ∧ Aside0 (Below w.heap.size w wc))
  case first =>
   have H := ZZ.out
   clear ZZ
   replace H := Option.bind_eq_some_iff.mp H
   obtain ⟨X5, Z2, H⟩ := H
   replace H : (if X5 = true then (if a1 < 0 then (quadratref06_Reverse.j0 k a1 true a0_0 Xf Xd) else (quadratref06_Reverse.j0 k a1 (decide (a1 ≥ (Xf.length : Int))) a0_0 Xf Xd)) else (quadratref06_Reverse.j0 k a1 true a0_0 Xf Xd)) = some (r1, r2, r3, r4) := H
   have A6 := Aside0.mk Z2
   clear Z2
   by_cases c7 : X5 = true
   case neg =>
    replace c7 := Bool.eq_false_iff.mpr c7
    subst c7
    have H1 : (quadratref06_Reverse.j0 k a1 true a0_0 Xf Xd) = some (r1, r2, r3, r4) := by rw [if_neg (show ¬ (false = true) by decide)] at H; exact H
    clear H
    have H := H1
    clear H1
    have H' := Aside0.mk H
    clear H
    have Z3 := XG.out
    have Z4 := XH.out
    have Ya : w5.cell? ⟨Xg, 0, none⟩ = some (.int .i64 a0_0) := (blk_cell Xa.out 0).trans rfl
    have Yb : w5.cell? ⟨Xg, 1, none⟩ = some (.slice Xt Xf.length Xp) := (blk_cell Xa.out 1).trans rfl
    have Yc : w5.cell? ⟨Xg, 2, none⟩ = some (.slice Xu Xd.length Xq) := (blk_cell Xa.out 2).trans rfl
    have Yd := blk_frozen Xa.out 0
    have Ye := blk_frozen Xa.out 1
    have Yf := blk_frozen Xa.out 2
    go_wp2_with (first | ((with_reducible refine gate_callee (f := 24) rfl ?_); refine goesL_ (some 8) rfl rfl Try.func24 (by kernel_rfl) rfl #[.agg #[.int .i64 a0_0, .slice Xt Xf.length Xp, .slice Xu Xd.length Xq]] rfl (by (try simp only [List.map_toArray, List.map_cons, List.map_nil]); first | done | rfl | (simp only [List.length_drop, List.length_take]; rfl)) ?_; (with_reducible refine (quadratref06_Valid.calls k a0_0 _ _ Xf _ _ Xd false _ ?side1 ?side2 ?side3 ?side4 A6.out).mono ?_); (case side1 => repeat (first | exact (Kd.C_below XU.out HB.out) | (with_reducible refine Kd.C_alloc ?_ _) | (with_reducible refine Kd.C_drewN ?_ _) | (with_reducible refine Kd.C_drew ?_))); (case side2 => exact XY.out); (case side3 => repeat (first | exact (Kd.C_below XV.out HB.out) | (with_reducible refine Kd.C_alloc ?_ _) | (with_reducible refine Kd.C_drewN ?_ _) | (with_reducible refine Kd.C_drew ?_))); (case side4 => exact XZ.out); rintro e w18 ⟨rfl, hb⟩; refine ⟨_, rfl, ?_⟩; have Xv := Aside0.mk (blk_below (g := Xg) (o := .cells #[.int .i64 a0_0, .slice Xt Xf.length Xp, .slice Xu Xd.length Xq] 31 (0, 0)) (by exact upB Xa.out) hb); have Xw := Aside0.mk (blk_below (g := Xi) (o := .cells #[.int .i64 0, .slice none 0 0, .slice none 0 0] 31 (0, 0)) (by exact upB Xc.out) hb); have Xx := Aside0.mk (below_step (by repeat (first | (with_reducible first | exact HB.out | apply upS | refine below_set ?_ Xn.out | refine below_set ?_ Xo.out) | exact HB.out)) hb); clear Xa; clear Xc; clear HB; have Xa := Xv; have Xc := Xw; have HB := Xx; clear Xv Xw Xx; (try clear hb); (try clear YM); (try clear hk); (try clear hi)))
    go_meet
    case rel => exact ⟨_, (true), (by first | rfl | (simp; done) | (simp [*]; done)), H', ⟨by first | omega | exact Nat.le_refl _⟩, ⟨by exact upB Xa.out⟩, ⟨by exact upB Xc.out⟩, ⟨by repeat (first | (with_reducible first | exact HB.out | apply upS | refine below_set ?_ Xn.out | refine below_set ?_ Xo.out) | exact HB.out)⟩⟩
   subst c7
   have H1 : (if a1 < 0 then (quadratref06_Reverse.j0 k a1 true a0_0 Xf Xd) else (quadratref06_Reverse.j0 k a1 (decide (a1 ≥ (Xf.length : Int))) a0_0 Xf Xd)) = some (r1, r2, r3, r4) := by rw [if_pos rfl] at H; exact H
   clear H
   have H := H1
   clear H1
   by_cases c8 : a1 < 0
   case pos =>
    rw [if_pos c8] at H
    have X6 : decide (a1 < 0) = true := decide_eq_true c8
    clear c8
    (first | rw [X6] | (simp only [i64_w, i32_w]; rw [X6]) | skip)
    have H' := Aside0.mk H
    clear H
    have Vv := XG.out
    have Vw := XH.out
    have Yg : w5.cell? ⟨Xg, 0, none⟩ = some (.int .i64 a0_0) := (blk_cell Xa.out 0).trans rfl
    have Yh : w5.cell? ⟨Xg, 1, none⟩ = some (.slice Xt Xf.length Xp) := (blk_cell Xa.out 1).trans rfl
    have Yi : w5.cell? ⟨Xg, 2, none⟩ = some (.slice Xu Xd.length Xq) := (blk_cell Xa.out 2).trans rfl
    have Yj := blk_frozen Xa.out 0
    have Yk := blk_frozen Xa.out 1
    have Yl := blk_frozen Xa.out 2
    go_wp2_with (first | ((with_reducible refine gate_callee (f := 24) rfl ?_); refine goesL_ (some 8) rfl rfl Try.func24 (by kernel_rfl) rfl #[.agg #[.int .i64 a0_0, .slice Xt Xf.length Xp, .slice Xu Xd.length Xq]] rfl (by (try simp only [List.map_toArray, List.map_cons, List.map_nil]); first | done | rfl | (simp only [List.length_drop, List.length_take]; rfl)) ?_; (with_reducible refine (quadratref06_Valid.calls k a0_0 _ _ Xf _ _ Xd true _ ?side1 ?side2 ?side3 ?side4 A6.out).mono ?_); (case side1 => repeat (first | exact (Kd.C_below XU.out HB.out) | (with_reducible refine Kd.C_alloc ?_ _) | (with_reducible refine Kd.C_drewN ?_ _) | (with_reducible refine Kd.C_drew ?_))); (case side2 => exact XY.out); (case side3 => repeat (first | exact (Kd.C_below XV.out HB.out) | (with_reducible refine Kd.C_alloc ?_ _) | (with_reducible refine Kd.C_drewN ?_ _) | (with_reducible refine Kd.C_drew ?_))); (case side4 => exact XZ.out); rintro e w11 ⟨rfl, hb⟩; refine ⟨_, rfl, ?_⟩; have Xv := Aside0.mk (blk_below (g := Xg) (o := .cells #[.int .i64 a0_0, .slice Xt Xf.length Xp, .slice Xu Xd.length Xq] 31 (0, 0)) (by exact upB Xa.out) hb); have Xw := Aside0.mk (blk_below (g := Xi) (o := .cells #[.int .i64 0, .slice none 0 0, .slice none 0 0] 31 (0, 0)) (by exact upB Xc.out) hb); have Xx := Aside0.mk (below_step (by repeat (first | (with_reducible first | exact HB.out | apply upS | refine below_set ?_ Xn.out | refine below_set ?_ Xo.out) | exact HB.out)) hb); clear Xa; clear Xc; clear HB; have Xa := Xv; have Xc := Xw; have HB := Xx; clear Xv Xw Xx; (try clear hb); (try clear YM); (try clear hk); (try clear hi)))
    go_meet
    case rel => exact ⟨_, (true), (by first | rfl | (simp; done) | (simp [*]; done)), H', ⟨by first | omega | exact Nat.le_refl _⟩, ⟨by exact upB Xa.out⟩, ⟨by exact upB Xc.out⟩, ⟨by repeat (first | (with_reducible first | exact HB.out | apply upS | refine below_set ?_ Xn.out | refine below_set ?_ Xo.out) | exact HB.out)⟩⟩
   rw [if_neg c8] at H
   have X6 : decide (a1 < 0) = false := decide_eq_false c8
   clear c8
   (first | rw [X6] | (simp only [i64_w, i32_w]; rw [X6]) | skip)
   have H' := Aside0.mk H
   clear H
   have Z5 := XG.out
   have Z6 := XH.out
   have Ym : w5.cell? ⟨Xg, 0, none⟩ = some (.int .i64 a0_0) := (blk_cell Xa.out 0).trans rfl
   have Yn : w5.cell? ⟨Xg, 1, none⟩ = some (.slice Xt Xf.length Xp) := (blk_cell Xa.out 1).trans rfl
   have Yo : w5.cell? ⟨Xg, 2, none⟩ = some (.slice Xu Xd.length Xq) := (blk_cell Xa.out 2).trans rfl
   have Yp := blk_frozen Xa.out 0
   have Yq := blk_frozen Xa.out 1
   have Yr := blk_frozen Xa.out 2
   go_wp2_with (first | ((with_reducible refine gate_callee (f := 24) rfl ?_); refine goesL_ (some 8) rfl rfl Try.func24 (by kernel_rfl) rfl #[.agg #[.int .i64 a0_0, .slice Xt Xf.length Xp, .slice Xu Xd.length Xq]] rfl (by (try simp only [List.map_toArray, List.map_cons, List.map_nil]); first | done | rfl | (simp only [List.length_drop, List.length_take]; rfl)) ?_; (with_reducible refine (quadratref06_Valid.calls k a0_0 _ _ Xf _ _ Xd true _ ?side1 ?side2 ?side3 ?side4 A6.out).mono ?_); (case side1 => repeat (first | exact (Kd.C_below XU.out HB.out) | (with_reducible refine Kd.C_alloc ?_ _) | (with_reducible refine Kd.C_drewN ?_ _) | (with_reducible refine Kd.C_drew ?_))); (case side2 => exact XY.out); (case side3 => repeat (first | exact (Kd.C_below XV.out HB.out) | (with_reducible refine Kd.C_alloc ?_ _) | (with_reducible refine Kd.C_drewN ?_ _) | (with_reducible refine Kd.C_drew ?_))); (case side4 => exact XZ.out); rintro e w14 ⟨rfl, hb⟩; refine ⟨_, rfl, ?_⟩; have Xv := Aside0.mk (blk_below (g := Xg) (o := .cells #[.int .i64 a0_0, .slice Xt Xf.length Xp, .slice Xu Xd.length Xq] 31 (0, 0)) (by exact upB Xa.out) hb); have Xw := Aside0.mk (blk_below (g := Xi) (o := .cells #[.int .i64 0, .slice none 0 0, .slice none 0 0] 31 (0, 0)) (by exact upB Xc.out) hb); have Xx := Aside0.mk (below_step (by repeat (first | (with_reducible first | exact HB.out | apply upS | refine below_set ?_ Xn.out | refine below_set ?_ Xo.out) | exact HB.out)) hb); clear Xa; clear Xc; clear HB; have Xa := Xv; have Xc := Xw; have HB := Xx; clear Xv Xw Xx; (try clear hb); (try clear YM); (try clear hk); (try clear hi); have Ys : w14.cell? ⟨Xg, 0, none⟩ = some (.int .i64 a0_0) := (blk_cell Xa.out 0).trans rfl; have Yt : w14.cell? ⟨Xg, 1, none⟩ = some (.slice Xt Xf.length Xp) := (blk_cell Xa.out 1).trans rfl; have Yu : w14.cell? ⟨Xg, 2, none⟩ = some (.slice Xu Xd.length Xq) := (blk_cell Xa.out 2).trans rfl; have Yv := blk_frozen Xa.out 0; have Yw := blk_frozen Xa.out 1; have Yx := blk_frozen Xa.out 2))
   go_meet
   case rel => exact ⟨_, (decide (a1 ≥ (Xf.length : Int))), (by first | rfl | (simp; done) | (simp [*]; done)), H', ⟨by first | omega | exact Nat.le_refl _⟩, ⟨by exact upB Xa.out⟩, ⟨by exact upB Xc.out⟩, ⟨by repeat (first | (with_reducible first | exact HB.out | apply upS | refine below_set ?_ Xn.out | refine below_set ?_ Xo.out) | exact HB.out)⟩⟩
  clear ZZ
  try clear c1
  try clear c2
  try clear p2
  try clear c3
  try clear c7
  try clear c8
  try clear X6
  try clear c9
  try clear Vz
  try clear VA
  try clear Yg
  try clear Yh
  try clear Yi
  try clear Ym
  try clear Yn
  try clear Yo
  try clear Ys
  try clear Yt
  try clear Yu
  try clear Ya
  try clear Yb
  try clear Yc
  try clear Yj
  try clear Yk
  try clear Yl
  try clear Yp
  try clear Yq
  try clear Yr
  try clear Yv
  try clear Yw
  try clear Yx
  try clear Yd
  try clear Ye
  try clear Yf
  obtain ⟨kq, X0, rfl, HA, HJ2, Xa, Xc, HB⟩ := hcut
  cases kq with
  | zero => exact absurd HA.out (by simp [quadratref06_Reverse.j0])
  | succ kj2 =>
   have H := HA.out
   clear HA
   simp only [quadratref06_Reverse.j0] at H
   by_cases YN : X0 = true
   case pos =>
    subst YN
    have H1 : (some (0, ([] : List Int), ([] : List Int), 2)) = some (r1, r2, r3, r4) := by rw [if_pos rfl] at H; exact H
    clear H
    have H := H1
    clear H1
    simp only [Option.some.injEq, Prod.mk.injEq] at H
    obtain ⟨rfl, rfl, rfl, rfl⟩ := H
    have Z7 := XH.out
    have Z8 := XG.out
    have YO : wc.cell? ⟨Xi, 0, none⟩ = some (.int .i64 0) := (blk_cell Xc.out 0).trans rfl
    have YP : wc.cell? ⟨Xi, 1, none⟩ = some (.slice none 0 0) := (blk_cell Xc.out 1).trans rfl
    have YQ : wc.cell? ⟨Xi, 2, none⟩ = some (.slice none 0 0) := (blk_cell Xc.out 2).trans rfl
    have YR := blk_frozen Xc.out 0
    have YS := blk_frozen Xc.out 1
    have YT := blk_frozen Xc.out 2
    go_wp2
    refine bodyPost_ret (results_ct rfl _ _ Xi 31 #[.int .i64 0, .slice none 0 0, .slice none 0 0] (0, 0) _ rfl (by (with_reducible repeat apply upF); refine blk_put (cs := #[.int .i64 0, .slice none 0 0, .slice none 0 0]) ?_ 2 _ rfl; (with_reducible repeat apply upF); refine blk_put (cs := #[.int .i64 0, .slice none 0 0, .slice none 0 0]) ?_ 1 _ rfl; (with_reducible repeat apply upF); refine blk_put (cs := #[.int .i64 0, .slice none 0 0, .slice none 0 0]) ?_ 0 _ rfl; exact upB Xc.out) Try.underlying31 rfl (by kernel_rfl)) rfl ?_
    exact ⟨_, _, by first | rfl | (simp [errW_none, errW_some] <;> rfl) | (simp [*, errW_none, errW_some] <;> rfl), by first | exact Kd.R_nil _ _ _ _ _ | exact Kd.N_nil _ _ _ _ _ | exact Kd.V_nil _ _ _ _ _ | exact Kd.Q_nil _ _ _ _ _ | exact Kd.S_nil _ _ _ _ _, by first | exact Kd.R_nil _ _ _ _ _ | exact Kd.N_nil _ _ _ _ _ | exact Kd.V_nil _ _ _ _ _ | exact Kd.Q_nil _ _ _ _ _ | exact Kd.S_nil _ _ _ _ _, by repeat (first | (with_reducible first | exact HB.out | apply upS | refine below_set ?_ Xn.out | refine below_set ?_ Xo.out) | exact HB.out)⟩
   replace YN := Bool.eq_false_iff.mpr YN
   subst YN
   have H1 : ((quadratref06_Copy.f a0_0 Xf Xd).bind fun XB => ((quadratref06_size.f kj2 Xf).bind fun XW => (if XW > 0 then (if 0 ≤ a1 then (if a1 < (Xf.length : Int) then (if a1 < (Xd.length : Int) then (if a1 < (XB.2.2.length : Int) then (some (wrap64 (XB.1 + (wrap64 ((wrap64 ((rd Xf a1) - 1)) * (rd Xd a1)))), XB.2.1, (XB.2.2.set (a1 : Int).toNat (wrap64 (-(rd Xd a1)))), 0)) else (none)) else (none)) else (none)) else (none)) else (if 0 ≤ a1 then (if a1 < (Xd.length : Int) then (if a1 < (XB.2.2.length : Int) then (some (XB.1, XB.2.1, (XB.2.2.set (a1 : Int).toNat (wrap64 (-(rd Xd a1)))), 0)) else (none)) else (none)) else (none))))) = some (r1, r2, r3, r4) := by rw [if_neg (show ¬ (false = true) by decide)] at H; exact H
   clear H
   have H := H1
   clear H1
   replace H := Option.bind_eq_some_iff.mp H
   obtain ⟨⟨Xm, Xk, Xj⟩, YD, H⟩ := H
   replace H : ((quadratref06_size.f kj2 Xf).bind fun XW => (if XW > 0 then (if 0 ≤ a1 then (if a1 < (Xf.length : Int) then (if a1 < (Xd.length : Int) then (if a1 < (Xj.length : Int) then (some (wrap64 (Xm + (wrap64 ((wrap64 ((rd Xf a1) - 1)) * (rd Xd a1)))), Xk, (Xj.set (a1 : Int).toNat (wrap64 (-(rd Xd a1)))), 0)) else (none)) else (none)) else (none)) else (none)) else (if 0 ≤ a1 then (if a1 < (Xd.length : Int) then (if a1 < (Xj.length : Int) then (some (Xm, Xk, (Xj.set (a1 : Int).toNat (wrap64 (-(rd Xd a1)))), 0)) else (none)) else (none)) else (none)))) = some (r1, r2, r3, r4) := H
   have Z9 := Aside0.mk YD
   clear YD
   replace H := Option.bind_eq_some_iff.mp H
   obtain ⟨XW, YE, H⟩ := H
   replace H : (if XW > 0 then (if 0 ≤ a1 then (if a1 < (Xf.length : Int) then (if a1 < (Xd.length : Int) then (if a1 < (Xj.length : Int) then (some (wrap64 (Xm + (wrap64 ((wrap64 ((rd Xf a1) - 1)) * (rd Xd a1)))), Xk, (Xj.set (a1 : Int).toNat (wrap64 (-(rd Xd a1)))), 0)) else (none)) else (none)) else (none)) else (none)) else (if 0 ≤ a1 then (if a1 < (Xd.length : Int) then (if a1 < (Xj.length : Int) then (some (Xm, Xk, (Xj.set (a1 : Int).toNat (wrap64 (-(rd Xd a1)))), 0)) else (none)) else (none)) else (none))) = some (r1, r2, r3, r4) := H
   have Va := Aside0.mk YE
   clear YE
   by_cases YC : XW > 0
   case neg =>
    rw [if_neg YC] at H
    have YF : decide (0 < XW) = false := decide_eq_false YC
    clear YC
    by_cases YU : 0 ≤ a1
    case neg =>
     rw [if_neg YU] at H
     exact absurd H (by simp)
    rw [if_pos YU] at H
    have Vb : decide (0 ≤ a1) = true := decide_eq_true YU
    clear YU
    by_cases YV : a1 < (Xd.length : Int)
    case neg =>
     rw [if_neg YV] at H
     exact absurd H (by simp)
    rw [if_pos YV] at H
    have Vc : decide (a1 < (Xd.length : Int)) = true := decide_eq_true YV
    clear YV
    by_cases YW : a1 < (Xj.length : Int)
    case neg =>
     rw [if_neg YW] at H
     exact absurd H (by simp)
    rw [if_pos YW] at H
    have Vd : decide (a1 < (Xj.length : Int)) = true := decide_eq_true YW
    clear YW
    obtain ⟨y516, hy516⟩ : ∃ y_ : List Int, y_ = (Xj.set (a1 : Int).toNat (wrap64 (-(rd Xd a1)))) := ⟨_, rfl⟩
    replace H : (some (Xm, Xk, y516, 0)) = some (r1, r2, r3, r4) := by first | (rw [hy516]; with_reducible exact H) | (have Yz := (Option.bind_some _ _).symm.trans H; rw [hy516]; with_reducible exact Yz) | (have Yz := (Option.bind_some _ _).symm.trans H; with_reducible exact Yz) | with_reducible exact H | (rw [hy516]; exact H) | exact H
    have Ny516 := Aside0.mk hy516
    clear hy516
    simp only [Option.some.injEq, Prod.mk.injEq] at H
    obtain ⟨rfl, rfl, rfl, rfl⟩ := H
    have Ve := XG.out
    have Vf := XH.out
    have YX : wc.cell? ⟨Xg, 0, none⟩ = some (.int .i64 a0_0) := (blk_cell Xa.out 0).trans rfl
    have YY : wc.cell? ⟨Xg, 1, none⟩ = some (.slice Xt Xf.length Xp) := (blk_cell Xa.out 1).trans rfl
    have YZ : wc.cell? ⟨Xg, 2, none⟩ = some (.slice Xu Xd.length Xq) := (blk_cell Xa.out 2).trans rfl
    have Y0 := blk_frozen Xa.out 0
    have Y1 := blk_frozen Xa.out 1
    have Y2 := blk_frozen Xa.out 2
    try go_wp2_with (first | ((with_reducible refine gate_callee (f := 55) rfl ?_); refine goesL_ (some 23) rfl rfl Try.func55 (by kernel_rfl) rfl #[.agg #[.int .i64 a0_0, .slice Xt Xf.length Xp, .slice Xu Xd.length Xq]] rfl (by (try simp only [List.map_toArray, List.map_cons, List.map_nil]); first | done | rfl | (simp only [List.length_drop, List.length_take]; rfl)) ?_; (with_reducible refine (quadratref06_Copy.calls a0_0 _ _ Xf _ _ Xd Xm Xk Xj _ ?side1 ?side2 ?side3 ?side4 Z9.out).mono ?_); (case side1 => repeat (first | exact (Kd.C_below XU.out HB.out) | (with_reducible refine Kd.C_alloc ?_ _) | (with_reducible refine Kd.C_drewN ?_ _) | (with_reducible refine Kd.C_drew ?_))); (case side2 => exact XY.out); (case side3 => repeat (first | exact (Kd.C_below XV.out HB.out) | (with_reducible refine Kd.C_alloc ?_ _) | (with_reducible refine Kd.C_drewN ?_ _) | (with_reducible refine Kd.C_drew ?_))); (case side4 => exact XZ.out); rintro e w55 ⟨v504, v507, rfl, ho0, ho1, hb⟩; refine ⟨_, rfl, ?_⟩; have Xv := Aside0.mk (Kd.R_lower ho0 (below_size (by repeat (first | (with_reducible first | exact HB.out | apply upS | refine below_set ?_ Xn.out | refine below_set ?_ Xo.out) | exact HB.out)))); have Xw := Aside0.mk (Kd.R_lower ho1 (below_size (by repeat (first | (with_reducible first | exact HB.out | apply upS | refine below_set ?_ Xn.out | refine below_set ?_ Xo.out) | exact HB.out)))); have Xx := Aside0.mk (blk_below (g := Xg) (o := .cells #[.int .i64 a0_0, .slice Xt Xf.length Xp, .slice Xu Xd.length Xq] 31 (0, 0)) (by exact upB Xa.out) hb); have XC := Aside0.mk (blk_below (g := Xi) (o := .cells #[.int .i64 0, .slice none 0 0, .slice none 0 0] 31 (0, 0)) (by exact upB Xc.out) hb); have XF := Aside0.mk (below_step (by repeat (first | (with_reducible first | exact HB.out | apply upS | refine below_set ?_ Xn.out | refine below_set ?_ Xo.out) | exact HB.out)) hb); clear Xa; clear Xc; clear HB; have Xl := Xv; have Xh := Xw; have Xa := Xx; have Xc := XC; have HB := XF; clear Xv Xw Xx XC XF; (try clear hb); (try clear YM); (try clear hk); (try clear hi); (try clear ho0); (try clear ho1)) | ((with_reducible refine gate_dst (N := 6) rfl ?_); (try (refine gate_guard (by rfl) ?_; dsimp only)); refine box_event ?hg (N := 6) ?hd (cs := #[.int .i64 0, .slice none 0 0, .slice none 0 0]) (t := 31) ?hr ?_; (case hd => rfl); (case hg => rfl); (case hr => first | (go_simp; done) | (go_simp; rfl)); intro Xb hg w56 hbox hb; have Xv := Aside0.mk (Kd.R_below (by (with_reducible repeat apply upG); exact Xl.out) hb); have Xw := Aside0.mk (Kd.R_below (by (with_reducible repeat apply upG); exact Xh.out) hb); have Xx := Aside0.mk (blk_below (g := Xg) (o := .cells #[.int .i64 a0_0, .slice Xt Xf.length Xp, .slice Xu Xd.length Xq] 31 (0, 0)) (by exact upB Xa.out) hb); have XC := Aside0.mk (blk_below (g := Xi) (o := .cells #[.int .i64 0, .slice none 0 0, .slice none 0 0] 31 (0, 0)) (by exact upB Xc.out) hb); have XF := Aside0.mk (below_step (by repeat (first | (with_reducible first | exact HB.out | apply upS | refine below_set ?_ Xn.out | refine below_set ?_ Xo.out) | exact HB.out)) hb); have XJ := Aside0.mk (hbox); have Yy := Aside0.mk ((by rw [hg]; exact (below_size (by repeat (first | (with_reducible first | exact HB.out | apply upS | refine below_set ?_ Xn.out | refine below_set ?_ Xo.out) | exact HB.out))) : w.heap.size ≤ Xb)); have YG := Aside0.mk ((by rw [hg]; exact (below_size (by repeat (first | (with_reducible first | exact HB.out | apply upS | refine below_set ?_ Xn.out | refine below_set ?_ Xo.out) | exact HB.out))) : w.heap.size ≤ Xb)); have YH := Aside0.mk ((by rw [hg]; exact Nat.ne_of_lt (blk_lt (g := Xg) (o := .cells #[.int .i64 a0_0, .slice Xt Xf.length Xp, .slice Xu Xd.length Xq] 31 (0, 0)) (by exact upB Xa.out)) : Xg ≠ Xb)); have YI := Aside0.mk ((by rw [hg]; exact Nat.ne_of_gt (blk_lt (g := Xg) (o := .cells #[.int .i64 a0_0, .slice Xt Xf.length Xp, .slice Xu Xd.length Xq] 31 (0, 0)) (by exact upB Xa.out)) : Xb ≠ Xg)); have X7 := Aside0.mk ((by rw [hg]; exact Nat.ne_of_lt (blk_lt (g := Xi) (o := .cells #[.int .i64 0, .slice none 0 0, .slice none 0 0] 31 (0, 0)) (by exact upB Xc.out)) : Xi ≠ Xb)); have X8 := Aside0.mk ((by rw [hg]; exact Nat.ne_of_gt (blk_lt (g := Xi) (o := .cells #[.int .i64 0, .slice none 0 0, .slice none 0 0] 31 (0, 0)) (by exact upB Xc.out)) : Xb ≠ Xi)); clear Xl; clear Xh; clear Xa; clear Xc; clear HB; have Xl := Xv; have Xh := Xw; have Xa := Xx; have Xc := XC; have HB := XF; have Xe := XJ; have YJ := Yy; have XL := YG; have Xr := YH; have XN := YI; have Xs := X7; have XO := X8; clear Xv Xw Xx XC XF XJ Yy YG YH YI X7 X8; clear hb hbox hg; have Vg := XN.out; have Vh := Xr.out; have Vi := XO.out; have Vj := Xs.out; have Y3 : w56.cell? ⟨Xb, 0, none⟩ = some (.int .i64 0) := (blk_cell Xe.out 0).trans rfl; have Y4 : w56.cell? ⟨Xb, 1, none⟩ = some (.slice none 0 0) := (blk_cell Xe.out 1).trans rfl; have Y5 : w56.cell? ⟨Xb, 2, none⟩ = some (.slice none 0 0) := (blk_cell Xe.out 2).trans rfl; have Y6 := blk_frozen Xe.out 0; have Y7 := blk_frozen Xe.out 1; have Y8 := blk_frozen Xe.out 2; obtain ⟨XD, XE, eo60⟩ := Kd.R_slice Xl.out; subst eo60; obtain ⟨XP, XI, eo61⟩ := Kd.R_slice Xh.out; subst eo61; have Y9 : w56.cell? ⟨Xg, 0, none⟩ = some (.int .i64 a0_0) := (blk_cell Xa.out 0).trans rfl; have Za : w56.cell? ⟨Xg, 1, none⟩ = some (.slice Xt Xf.length Xp) := (blk_cell Xa.out 1).trans rfl; have Zb : w56.cell? ⟨Xg, 2, none⟩ = some (.slice Xu Xd.length Xq) := (blk_cell Xa.out 2).trans rfl; have Zc := blk_frozen Xa.out 0; have Zd := blk_frozen Xa.out 1; have Ze := blk_frozen Xa.out 2) | ((with_reducible refine gate_callee (f := 47) rfl ?_); refine goesL_ (some 26) rfl rfl Try.func47 (by kernel_rfl) rfl #[.slice Xt Xf.length Xp] rfl (by (try simp only [List.map_toArray, List.map_cons, List.map_nil]); first | done | rfl | (simp only [List.length_drop, List.length_take]; rfl)) ?_; (with_reducible refine (quadratref06_size.calls kj2 _ _ Xf XW _ ?side1 ?side2 Va.out).mono ?_); (case side1 => exact Kd.C_below XU.out (by repeat (first | (with_reducible first | exact HB.out | apply upS | refine below_set ?_ Xn.out | refine below_set ?_ Xo.out | refine below_set ?_ XL.out) | exact HB.out))); (case side2 => exact XY.out); rintro e w' ⟨rfl, ⟨nd, rfl⟩⟩; refine ⟨_, rfl, ?_⟩))
    have Xv : Aside0 (Kd.R (Kd.int .i64) 3 (((w56.setCell ⟨Xb, 0, none⟩ (.int .i64 Xm)).setCell ⟨Xb, 1, none⟩ (.slice XD Xk.length XE)).setCell ⟨Xb, 2, none⟩ (.slice XP Xj.length XI)) w.heap.size (fun k_ => some k_ ≠ (.slice XP Xj.length XI : Value).ownBlock) (.slice XD Xk.length XE) Xk) := ⟨by (with_reducible repeat apply upG); exact Kd.R_mono (Kd.R_far (p := ⟨Xb, 2, none⟩) (Kd.R_far (p := ⟨Xb, 1, none⟩) (Kd.R_far (p := ⟨Xb, 0, none⟩) (Kd.R_types Xl.out Xe.out (by decide)) (fun _ hk => hk.2) (.int .i64 Xm)) (fun _ hk => hk.2) (.slice XD Xk.length XE)) (fun _ hk => hk.2) (.slice XP Xj.length XI)) (fun _ hk => hk.1)⟩
    have Xw : Aside0 (Kd.R (Kd.int .i64) 3 (((w56.setCell ⟨Xb, 0, none⟩ (.int .i64 Xm)).setCell ⟨Xb, 1, none⟩ (.slice XD Xk.length XE)).setCell ⟨Xb, 2, none⟩ (.slice XP Xj.length XI)) w.heap.size (fun k_ => some k_ ≠ (.slice XD Xk.length XE : Value).ownBlock) (.slice XP Xj.length XI) Xj) := ⟨by (with_reducible repeat apply upG); exact Kd.R_mono (Kd.R_far (p := ⟨Xb, 2, none⟩) (Kd.R_far (p := ⟨Xb, 1, none⟩) (Kd.R_far (p := ⟨Xb, 0, none⟩) (Kd.R_types Xh.out Xe.out (by decide)) (fun _ hk => hk.2) (.int .i64 Xm)) (fun _ hk => hk.2) (.slice XD Xk.length XE)) (fun _ hk => hk.2) (.slice XP Xj.length XI)) (fun _ hk => hk.1)⟩
    have Xx : Aside0 ((((w56.setCell ⟨Xb, 0, none⟩ (.int .i64 Xm)).setCell ⟨Xb, 1, none⟩ (.slice XD Xk.length XE)).setCell ⟨Xb, 2, none⟩ (.slice XP Xj.length XI)).heap[Xg]? = some (.cells #[.int .i64 a0_0, .slice Xt Xf.length Xp, .slice Xu Xd.length Xq] 31 (0, 0))) := ⟨by (with_reducible repeat apply upF); refine blk_far ?_ Xr.out _; (with_reducible repeat apply upF); refine blk_far ?_ Xr.out _; (with_reducible repeat apply upF); refine blk_far ?_ Xr.out _; exact upB Xa.out⟩
    have XC : Aside0 ((((w56.setCell ⟨Xb, 0, none⟩ (.int .i64 Xm)).setCell ⟨Xb, 1, none⟩ (.slice XD Xk.length XE)).setCell ⟨Xb, 2, none⟩ (.slice XP Xj.length XI)).heap[Xi]? = some (.cells #[.int .i64 0, .slice none 0 0, .slice none 0 0] 31 (0, 0))) := ⟨by (with_reducible repeat apply upF); refine blk_far ?_ Xs.out _; (with_reducible repeat apply upF); refine blk_far ?_ Xs.out _; (with_reducible repeat apply upF); refine blk_far ?_ Xs.out _; exact upB Xc.out⟩
    have XF : Aside0 ((((w56.setCell ⟨Xb, 0, none⟩ (.int .i64 Xm)).setCell ⟨Xb, 1, none⟩ (.slice XD Xk.length XE)).setCell ⟨Xb, 2, none⟩ (.slice XP Xj.length XI)).heap[Xb]? = some (.cells #[.int .i64 Xm, .slice XD Xk.length XE, .slice XP Xj.length XI] 31 (0, 0))) := ⟨by (with_reducible repeat apply upF); refine blk_put (cs := #[.int .i64 Xm, .slice XD Xk.length XE, .slice none 0 0]) ?_ 2 _ rfl; (with_reducible repeat apply upF); refine blk_put (cs := #[.int .i64 Xm, .slice none 0 0, .slice none 0 0]) ?_ 1 _ rfl; (with_reducible repeat apply upF); refine blk_put (cs := #[.int .i64 0, .slice none 0 0, .slice none 0 0]) ?_ 0 _ rfl; exact upB Xe.out⟩
    have XJ : Aside0 (Below w.heap.size w (((w56.setCell ⟨Xb, 0, none⟩ (.int .i64 Xm)).setCell ⟨Xb, 1, none⟩ (.slice XD Xk.length XE)).setCell ⟨Xb, 2, none⟩ (.slice XP Xj.length XI))) := ⟨by repeat (first | (with_reducible first | exact HB.out | apply upS | refine below_set ?_ Xn.out | refine below_set ?_ Xo.out | refine below_set ?_ XL.out) | exact HB.out)⟩
    (try clear Xl)
    (try clear Xh)
    (try clear Xa)
    (try clear Xc)
    (try clear Xe)
    (try clear HB)
    generalize (((w56.setCell ⟨Xb, 0, none⟩ (.int .i64 Xm)).setCell ⟨Xb, 1, none⟩ (.slice XD Xk.length XE)).setCell ⟨Xb, 2, none⟩ (.slice XP Xj.length XI)) = w63 at Xv Xw Xx XC XF XJ ⊢
    have Xl := Xv
    have Xh := Xw
    have Xa := Xx
    have Xc := XC
    have Xe := XF
    have HB := XJ
    clear Xv Xw Xx XC XF XJ
    (try (rw [drewN_self w63]; generalize hq_ : World.drewN w63 _ = w63; have Xv : Aside0 (Kd.R (Kd.int .i64) 3 w63 w.heap.size (fun k_ => some k_ ≠ (.slice XP Xj.length XI : Value).ownBlock) (.slice XD Xk.length XE) Xk) := ⟨by rw [← hq_]; exact (by (with_reducible repeat apply upG); exact Xl.out)⟩; have Xw : Aside0 (Kd.R (Kd.int .i64) 3 w63 w.heap.size (fun k_ => some k_ ≠ (.slice XD Xk.length XE : Value).ownBlock) (.slice XP Xj.length XI) Xj) := ⟨by rw [← hq_]; exact (by (with_reducible repeat apply upG); exact Xh.out)⟩; have Xx : Aside0 (w63.heap[Xg]? = some (.cells #[.int .i64 a0_0, .slice Xt Xf.length Xp, .slice Xu Xd.length Xq] 31 (0, 0))) := ⟨by rw [← hq_]; exact (by exact upB Xa.out)⟩; have XC : Aside0 (w63.heap[Xi]? = some (.cells #[.int .i64 0, .slice none 0 0, .slice none 0 0] 31 (0, 0))) := ⟨by rw [← hq_]; exact (by exact upB Xc.out)⟩; have XF : Aside0 (w63.heap[Xb]? = some (.cells #[.int .i64 Xm, .slice XD Xk.length XE, .slice XP Xj.length XI] 31 (0, 0))) := ⟨by rw [← hq_]; exact (by exact upB Xe.out)⟩; have XJ : Aside0 (Below w.heap.size w w63) := ⟨by rw [← hq_]; exact (by repeat (first | (with_reducible first | exact HB.out | apply upS | refine below_set ?_ Xn.out | refine below_set ?_ Xo.out | refine below_set ?_ XL.out) | exact HB.out))⟩; clear Xl Xh Xa Xc Xe HB hq_; have Xl := Xv; have Xh := Xw; have Xa := Xx; have Xc := XC; have Xe := XF; have HB := XJ; clear Xv Xw Xx XC XF XJ))
    have Xv := Aside0.mk (Kd.R_drew Xl.out)
    have Xw := Aside0.mk (Kd.R_drew Xh.out)
    have Xx := Aside0.mk (blk_drew Xa.out)
    have XC := Aside0.mk (blk_drew Xc.out)
    have XF := Aside0.mk (blk_drew Xe.out)
    have XJ := Aside0.mk (below_drew1 HB.out)
    clear Xl
    clear Xh
    clear Xa
    clear Xc
    clear Xe
    clear HB
    have Xl := Xv
    have Xh := Xw
    have Xa := Xx
    have Xc := XC
    have Xe := XF
    have HB := XJ
    clear Xv Xw Xx XC XF XJ
    have p515 : 0 ≤ (a1 : Int) := of_decide_eq_true (by first | (with_reducible assumption) | assumption)
    have q515 : a1 < (Xd.length : Int) := of_decide_eq_true (by first | (with_reducible assumption) | assumption)
    obtain ⟨ad515, e515, XQ⟩ := Kd.at_int XV.out a1 p515 q515
    have X1 := XQ
    cases e515
    replace XQ := (HB.out.cell (World.block_lt_of_cell? w _ XQ)).trans XQ
    replace p515 := eq_true p515
    replace q515 := eq_true q515
    have p52 : 0 ≤ (a1 : Int) := of_decide_eq_true (by first | (with_reducible assumption) | assumption)
    have q52 : (a1 : Int) < ((Xj.length : Int) : Int) := of_decide_eq_true (by first | (with_reducible assumption) | assumption)
    obtain ⟨go52, Vx, eo52, YK, gl52, cl52, HG52⟩ := Kd.R_form Xh.out (by omega)
    (first | cases eo52 | (injection eo52 with ea_ en_ ec_; (first | subst ea_ | (injection ea_ with ea_; subst ea_)); subst ec_; clear en_))
    have GB52 := Aside0.mk YK
    have GG52 := Aside0.mk HG52
    clear YK gl52 HG52
    obtain ⟨YA, hf52_0⟩ := Kd.R_celln 0 Xh.out (a1 : Int) p52 q52
    replace p52 := eq_true p52
    replace q52 := eq_true q52
    have HP65 := Kd.R_putn Xh.out (a1 : Int) (wrap64 (-(rd Xd a1)))
    rw [← Ny516.out] at HP65
    have HQ65 := Aside0.mk HP65
    clear HP65
    refine start_ (n := 11) (S := fun w' => w'.cell? ⟨Xb, 0, none⟩ = some (.int .i64 Xm) ∧ w'.cell? ⟨Xb, 1, none⟩ = some (.slice XD Xk.length XE) ∧ w'.cell? ⟨Xb, 2, none⟩ = some (.slice (some ⟨go52, 0, none⟩) Xj.length XI) ∧ w'.cell? ⟨Xg, 0, none⟩ = some (.int .i64 a0_0) ∧ w'.cell? ⟨Xg, 1, none⟩ = some (.slice Xt Xf.length Xp) ∧ w'.cell? ⟨Xg, 2, none⟩ = some (.slice (some ad515) Xd.length Xq) ∧ w'.cell? (ad515.add (a1).toNat) = some (.int .i64 (rd Xd a1))) (ds := [10]) #[false, false, false, false, false, false, false, false, false, false, false] (by kernel_rfl) rfl rfl ⟨(blk_cell Xe.out 0).trans rfl, (blk_cell Xe.out 1).trans rfl, (blk_cell Xe.out 2).trans rfl, (blk_cell Xa.out 0).trans rfl, (blk_cell Xa.out 1).trans rfl, (blk_cell Xa.out 2).trans rfl, ((HB.out.cell (World.block_lt_of_cell? w _ X1)).trans X1)⟩ (fun hHeld => ?_); refine with_tabW quadratref06_Reverse.tab6 quadratref06_Reverse.bits6 (fun HT_ HW_ => ?_)
    generalize w63.drew = w64 at Xl Xh Xa Xc Xe HB GG52 HQ65 hf52_0 XQ YA hHeld ⊢
    refine pure_ (i := 0) (N := some 44) (v := ?_) (a' := ?_) #[true, false, false, false, false, false, false, false, false, false, false] rfl rfl (any_of HT_.out (by kernel_rfl)) (fun _ _ _ h => h) (Or.inl ⟨by rfl, ?_⟩) ?_ ?_
    rotate_left
    · intro w'; go_simp; with_reducible rfl
    rotate_left
    · simp only [Act.put, List.setIfInBounds_toArray, List.set_cons_zero, List.set_cons_succ, i64_w, i32_w]; rfl
    refine pure_ (i := 2) (N := some 46) (v := ?_) (a' := ?_) #[true, false, true, false, false, false, false, false, false, false, false] rfl rfl (any_of HT_.out (by kernel_rfl)) (fun _ _ _ h => h) (Or.inl ⟨by rfl, ?_⟩) ?_ ?_
    rotate_left
    · intro w'; go_simp; with_reducible rfl
    rotate_left
    · simp only [Act.put, List.setIfInBounds_toArray, List.set_cons_zero, List.set_cons_succ, i64_w, i32_w]; rfl
    refine pure_ (i := 3) (N := some 47) (v := ?_) (a' := ?_) #[true, false, true, true, false, false, false, false, false, false, false] rfl rfl (any_of HT_.out (by kernel_rfl)) (fun _ _ _ h => h) (Or.inl ⟨by rfl, ?_⟩) ?_ ?_
    rotate_left
    · intro w'; go_simp; with_reducible rfl
    rotate_left
    · simp only [Act.put, List.setIfInBounds_toArray, List.set_cons_zero, List.set_cons_succ, i64_w, i32_w]; rfl
    refine pure_ (i := 5) (N := some 49) (v := ?_) (a' := ?_) #[true, false, true, true, false, true, false, false, false, false, false] rfl rfl (any_of HT_.out (by kernel_rfl)) (fun _ _ _ h => h) (Or.inl ⟨by rfl, ?_⟩) ?_ ?_
    rotate_left
    · intro w'; go_simp; with_reducible rfl
    rotate_left
    · simp only [Act.put, List.setIfInBounds_toArray, List.set_cons_zero, List.set_cons_succ, i64_w, i32_w]; rfl
    refine take_ (i := 1) (N := some 45) (v := ?_) (a' := ?_) #[true, true, true, true, false, true, false, false, false, false, false] rfl rfl (take_ofW HT_.out HW_.out (by kernel_rfl)) (fun _ _ _ h => h) (Or.inl ⟨by rfl, ?_⟩) hHeld ?_ ?_
    rotate_left
    · rintro w' ⟨s0, s1, s2, s3, s4, s5, s6⟩
      go_simp
      with_reducible rfl
    rotate_left
    · simp only [Act.put, List.setIfInBounds_toArray, List.set_cons_zero, List.set_cons_succ, i64_w, i32_w]; rfl
    refine take_ (i := 4) (N := some 48) (v := ?_) (a' := ?_) #[true, true, true, true, true, true, false, false, false, false, false] rfl rfl (take_ofW HT_.out HW_.out (by kernel_rfl)) (fun _ _ _ h => h) (Or.inl ⟨by rfl, ?_⟩) hHeld ?_ ?_
    rotate_left
    · rintro w' ⟨s0, s1, s2, s3, s4, s5, s6⟩
      go_simp
      with_reducible rfl
    rotate_left
    · simp only [Act.put, List.setIfInBounds_toArray, List.set_cons_zero, List.set_cons_succ, i64_w, i32_w]; rfl
    refine pure_ (i := 6) (N := some 50) (v := ?_) (a' := ?_) #[true, true, true, true, true, true, true, false, false, false, false] rfl rfl (any_of HT_.out (by kernel_rfl)) (fun _ _ _ h => h) (Or.inl ⟨by rfl, ?_⟩) ?_ ?_
    rotate_left
    · intro w'; go_simp; with_reducible rfl
    rotate_left
    · simp only [Act.put, List.setIfInBounds_toArray, List.set_cons_zero, List.set_cons_succ, i64_w, i32_w]; rfl
    refine take_ (i := 7) (N := some 51) (v := ?_) (a' := ?_) #[true, true, true, true, true, true, true, true, false, false, false] rfl rfl (take_ofW HT_.out HW_.out (by kernel_rfl)) (fun _ _ _ h => h) (Or.inl ⟨by rfl, ?_⟩) hHeld ?_ ?_
    rotate_left
    · rintro w' ⟨s0, s1, s2, s3, s4, s5, s6⟩
      go_simp
      with_reducible rfl
    rotate_left
    · simp only [Act.put, List.setIfInBounds_toArray, List.set_cons_zero, List.set_cons_succ, i64_w, i32_w]; rfl
    refine pure_ (i := 8) (N := some 52) (v := ?_) (a' := ?_) #[true, true, true, true, true, true, true, true, true, false, false] rfl rfl (any_of HT_.out (by kernel_rfl)) (fun _ _ _ h => h) (Or.inl ⟨by rfl, ?_⟩) ?_ ?_
    rotate_left
    · intro w'; go_simp; with_reducible rfl
    rotate_left
    · simp only [Act.put, List.setIfInBounds_toArray, List.set_cons_zero, List.set_cons_succ, i64_w, i32_w]; rfl
    refine pure_ (i := 9) (N := some 53) (v := ?_) (a' := ?_) #[true, true, true, true, true, true, true, true, true, true, false] rfl rfl (any_of HT_.out (by kernel_rfl)) (fun _ _ _ h => h) (Or.inl ⟨by rfl, ?_⟩) ?_ ?_
    rotate_left
    · intro w'; go_simp; with_reducible rfl
    rotate_left
    · simp only [Act.put, List.setIfInBounds_toArray, List.set_cons_zero, List.set_cons_succ, i64_w, i32_w]; rfl
    refine last_ (i := 10) (N := none) #[true, true, true, true, true, true, true, true, true, true, true] rfl rfl (one_of HT_.out (by kernel_rfl)) (by decide) (fun K hK => ?_)
    refine skip_ (w1 := ?_) (by rfl) rfl ?_ ?_
    rotate_left
    · go_simp
      rfl
    refine hK.out _ _ ?_
    clear hK K
    refine done_ (done_of HT_.out (by kernel_rfl)) ?_
    have Xv : Aside0 (Kd.R (Kd.int .i64) 3 (w64.setCell ⟨go52, (a1 : Int).toNat, none⟩ (.int .i64 (wrap64 (-(rd Xd a1))))) w.heap.size (fun k_ => some k_ ≠ (.slice (some ⟨go52, 0, none⟩) Xj.length XI : Value).ownBlock) (.slice XD Xk.length XE) Xk) := ⟨by (with_reducible repeat apply upG); exact Kd.R_mono (Kd.R_far (p := ⟨go52, (a1 : Int).toNat, none⟩) (Kd.R_mono Xl.out (fun k_ hk => (⟨hk, fun e_ => hk (by rw [e_]; rfl)⟩ : _ ∧ k_ ≠ go52))) (fun _ hk => hk.2) (.int .i64 (wrap64 (-(rd Xd a1))))) (fun _ hk => hk.1)⟩
    have Xw : Aside0 (Kd.R (Kd.int .i64) 3 (w64.setCell ⟨go52, (a1 : Int).toNat, none⟩ (.int .i64 (wrap64 (-(rd Xd a1))))) w.heap.size (fun k_ => some k_ ≠ (.slice XD Xk.length XE : Value).ownBlock) (.slice (some ⟨go52, 0, none⟩) Xj.length XI) y516) := ⟨by (with_reducible repeat apply upG); exact HQ65.out⟩
    have Xx : Aside0 ((w64.setCell ⟨go52, (a1 : Int).toNat, none⟩ (.int .i64 (wrap64 (-(rd Xd a1))))).heap[Xg]? = some (.cells #[.int .i64 a0_0, .slice Xt Xf.length Xp, .slice (some ad515) Xd.length Xq] 31 (0, 0))) := ⟨by (with_reducible repeat apply upF); refine blk_far ?_ (by have h_ := Kd.R_ne Xh.out Xa.out (by decide); intro e_; exact h_ (by rw [e_]; rfl)) _; exact upB Xa.out⟩
    have XC : Aside0 ((w64.setCell ⟨go52, (a1 : Int).toNat, none⟩ (.int .i64 (wrap64 (-(rd Xd a1))))).heap[Xi]? = some (.cells #[.int .i64 0, .slice none 0 0, .slice none 0 0] 31 (0, 0))) := ⟨by (with_reducible repeat apply upF); refine blk_far ?_ (by have h_ := Kd.R_ne Xh.out Xc.out (by decide); intro e_; exact h_ (by rw [e_]; rfl)) _; exact upB Xc.out⟩
    have XF : Aside0 ((w64.setCell ⟨go52, (a1 : Int).toNat, none⟩ (.int .i64 (wrap64 (-(rd Xd a1))))).heap[Xb]? = some (.cells #[.int .i64 Xm, .slice XD Xk.length XE, .slice (some ⟨go52, 0, none⟩) Xj.length XI] 31 (0, 0))) := ⟨by (with_reducible repeat apply upF); refine blk_far ?_ (by have h_ := Kd.R_ne Xh.out Xe.out (by decide); intro e_; exact h_ (by rw [e_]; rfl)) _; exact upB Xe.out⟩
    have XJ : Aside0 (Below w.heap.size w (w64.setCell ⟨go52, (a1 : Int).toNat, none⟩ (.int .i64 (wrap64 (-(rd Xd a1)))))) := ⟨by repeat (first | (with_reducible first | exact HB.out | apply upS | refine below_set ?_ GB52.out | refine below_set ?_ Xn.out | refine below_set ?_ Xo.out | refine below_set ?_ XL.out) | exact HB.out)⟩
    (try clear Xl)
    (try clear Xh)
    (try clear Xa)
    (try clear Xc)
    (try clear Xe)
    (try clear HB)
    generalize (w64.setCell ⟨go52, (a1 : Int).toNat, none⟩ (.int .i64 (wrap64 (-(rd Xd a1))))) = w66 at Xv Xw Xx XC XF XJ ⊢
    have Xl := Xv
    have Xh := Xw
    have Xa := Xx
    have Xc := XC
    have Xe := XF
    have HB := XJ
    clear Xv Xw Xx XC XF XJ
    have Zf : w66.cell? ⟨Xb, 0, none⟩ = some (.int .i64 Xm) := (blk_cell Xe.out 0).trans rfl
    have Zg : w66.cell? ⟨Xb, 1, none⟩ = some (.slice XD Xk.length XE) := (blk_cell Xe.out 1).trans rfl
    have Zh : w66.cell? ⟨Xb, 2, none⟩ = some (.slice (some ⟨go52, 0, none⟩) Xj.length XI) := (blk_cell Xe.out 2).trans rfl
    have Zi := blk_frozen Xe.out 0
    have Zj := blk_frozen Xe.out 1
    have Zk := blk_frozen Xe.out 2
    have Zl : w66.cell? ⟨Xi, 0, none⟩ = some (.int .i64 0) := (blk_cell Xc.out 0).trans rfl
    have Zm : w66.cell? ⟨Xi, 1, none⟩ = some (.slice none 0 0) := (blk_cell Xc.out 1).trans rfl
    have Zn : w66.cell? ⟨Xi, 2, none⟩ = some (.slice none 0 0) := (blk_cell Xc.out 2).trans rfl
    have Zo := blk_frozen Xc.out 0
    have Zp := blk_frozen Xc.out 1
    have Zq := blk_frozen Xc.out 2
    try go_wp2
    refine bodyPost_ret (results_ct rfl _ _ Xi 31 #[.int .i64 Xm, .slice XD Xk.length XE, .slice (some ⟨go52, 0, none⟩) Xj.length XI] (0, 0) _ rfl (by (with_reducible repeat apply upF); refine blk_put (cs := #[.int .i64 Xm, .slice XD Xk.length XE, .slice none 0 0]) ?_ 2 _ rfl; (with_reducible repeat apply upF); refine blk_put (cs := #[.int .i64 Xm, .slice none 0 0, .slice none 0 0]) ?_ 1 _ rfl; (with_reducible repeat apply upF); refine blk_put (cs := #[.int .i64 0, .slice none 0 0, .slice none 0 0]) ?_ 0 _ rfl; exact upB Xc.out) Try.underlying31 rfl (by kernel_rfl)) rfl ?_
    exact ⟨_, _, by first | rfl | (simp [errW_none, errW_some] <;> rfl) | (simp [*, errW_none, errW_some] <;> rfl), by (with_reducible repeat apply upG); exact Kd.R_mono (Kd.R_far (p := ⟨Xi, 2, none⟩) (Kd.R_far (p := ⟨Xi, 1, none⟩) (Kd.R_far (p := ⟨Xi, 0, none⟩) (Kd.R_types Xl.out Xc.out (by decide)) (fun _ hk => hk.2) (.int .i64 Xm)) (fun _ hk => hk.2) (.slice XD Xk.length XE)) (fun _ hk => hk.2) (.slice (some ⟨go52, 0, none⟩) Xj.length XI)) (fun _ hk => hk.1), by (with_reducible repeat apply upG); exact Kd.R_mono (Kd.R_far (p := ⟨Xi, 2, none⟩) (Kd.R_far (p := ⟨Xi, 1, none⟩) (Kd.R_far (p := ⟨Xi, 0, none⟩) (Kd.R_types Xh.out Xc.out (by decide)) (fun _ hk => hk.2) (.int .i64 Xm)) (fun _ hk => hk.2) (.slice XD Xk.length XE)) (fun _ hk => hk.2) (.slice (some ⟨go52, 0, none⟩) Xj.length XI)) (fun _ hk => hk.1), by repeat (first | (with_reducible first | exact HB.out | apply upS | refine below_set ?_ Xn.out | refine below_set ?_ Xo.out | refine below_set ?_ XL.out) | exact HB.out)⟩
   rw [if_pos YC] at H
   have YF : decide (0 < XW) = true := decide_eq_true YC
   clear YC
   by_cases Zr : 0 ≤ a1
   case neg =>
    rw [if_neg Zr] at H
    exact absurd H (by simp)
   rw [if_pos Zr] at H
   have Vk : decide (0 ≤ a1) = true := decide_eq_true Zr
   clear Zr
   by_cases Zs : a1 < (Xf.length : Int)
   case neg =>
    rw [if_neg Zs] at H
    exact absurd H (by simp)
   rw [if_pos Zs] at H
   have Vl : decide (a1 < (Xf.length : Int)) = true := decide_eq_true Zs
   clear Zs
   by_cases Zt : a1 < (Xd.length : Int)
   case neg =>
    rw [if_neg Zt] at H
    exact absurd H (by simp)
   rw [if_pos Zt] at H
   have Vm : decide (a1 < (Xd.length : Int)) = true := decide_eq_true Zt
   clear Zt
   by_cases Zu : a1 < (Xj.length : Int)
   case neg =>
    rw [if_neg Zu] at H
    exact absurd H (by simp)
   rw [if_pos Zu] at H
   have Vn : decide (a1 < (Xj.length : Int)) = true := decide_eq_true Zu
   clear Zu
   obtain ⟨y514, hy514⟩ : ∃ y_ : List Int, y_ = (Xj.set (a1 : Int).toNat (wrap64 (-(rd Xd a1)))) := ⟨_, rfl⟩
   replace H : (some (wrap64 (Xm + (wrap64 ((wrap64 ((rd Xf a1) - 1)) * (rd Xd a1)))), Xk, y514, 0)) = some (r1, r2, r3, r4) := by first | (rw [hy514]; with_reducible exact H) | (have Yz := (Option.bind_some _ _).symm.trans H; rw [hy514]; with_reducible exact Yz) | (have Yz := (Option.bind_some _ _).symm.trans H; with_reducible exact Yz) | with_reducible exact H | (rw [hy514]; exact H) | exact H
   have Ny514 := Aside0.mk hy514
   clear hy514
   simp only [Option.some.injEq, Prod.mk.injEq] at H
   obtain ⟨rfl, rfl, rfl, rfl⟩ := H
   have Vo := XG.out
   have Vp := XH.out
   have Zv : wc.cell? ⟨Xg, 0, none⟩ = some (.int .i64 a0_0) := (blk_cell Xa.out 0).trans rfl
   have Zw : wc.cell? ⟨Xg, 1, none⟩ = some (.slice Xt Xf.length Xp) := (blk_cell Xa.out 1).trans rfl
   have Zx : wc.cell? ⟨Xg, 2, none⟩ = some (.slice Xu Xd.length Xq) := (blk_cell Xa.out 2).trans rfl
   have Zy := blk_frozen Xa.out 0
   have Zz := blk_frozen Xa.out 1
   have ZA := blk_frozen Xa.out 2
   try go_wp2_with (first | ((with_reducible refine gate_callee (f := 55) rfl ?_); refine goesL_ (some 23) rfl rfl Try.func55 (by kernel_rfl) rfl #[.agg #[.int .i64 a0_0, .slice Xt Xf.length Xp, .slice Xu Xd.length Xq]] rfl (by (try simp only [List.map_toArray, List.map_cons, List.map_nil]); first | done | rfl | (simp only [List.length_drop, List.length_take]; rfl)) ?_; (with_reducible refine (quadratref06_Copy.calls a0_0 _ _ Xf _ _ Xd Xm Xk Xj _ ?side1 ?side2 ?side3 ?side4 Z9.out).mono ?_); (case side1 => repeat (first | exact (Kd.C_below XU.out HB.out) | (with_reducible refine Kd.C_alloc ?_ _) | (with_reducible refine Kd.C_drewN ?_ _) | (with_reducible refine Kd.C_drew ?_))); (case side2 => exact XY.out); (case side3 => repeat (first | exact (Kd.C_below XV.out HB.out) | (with_reducible refine Kd.C_alloc ?_ _) | (with_reducible refine Kd.C_drewN ?_ _) | (with_reducible refine Kd.C_drew ?_))); (case side4 => exact XZ.out); rintro e w32 ⟨v504, v507, rfl, ho0, ho1, hb⟩; refine ⟨_, rfl, ?_⟩; have Xv := Aside0.mk (Kd.R_lower ho0 (below_size (by repeat (first | (with_reducible first | exact HB.out | apply upS | refine below_set ?_ Xn.out | refine below_set ?_ Xo.out) | exact HB.out)))); have Xw := Aside0.mk (Kd.R_lower ho1 (below_size (by repeat (first | (with_reducible first | exact HB.out | apply upS | refine below_set ?_ Xn.out | refine below_set ?_ Xo.out) | exact HB.out)))); have Xx := Aside0.mk (blk_below (g := Xg) (o := .cells #[.int .i64 a0_0, .slice Xt Xf.length Xp, .slice Xu Xd.length Xq] 31 (0, 0)) (by exact upB Xa.out) hb); have XC := Aside0.mk (blk_below (g := Xi) (o := .cells #[.int .i64 0, .slice none 0 0, .slice none 0 0] 31 (0, 0)) (by exact upB Xc.out) hb); have XF := Aside0.mk (below_step (by repeat (first | (with_reducible first | exact HB.out | apply upS | refine below_set ?_ Xn.out | refine below_set ?_ Xo.out) | exact HB.out)) hb); clear Xa; clear Xc; clear HB; have Xl := Xv; have Xh := Xw; have Xa := Xx; have Xc := XC; have HB := XF; clear Xv Xw Xx XC XF; (try clear hb); (try clear YM); (try clear hk); (try clear hi); (try clear ho0); (try clear ho1)) | ((with_reducible refine gate_dst (N := 6) rfl ?_); (try (refine gate_guard (by rfl) ?_; dsimp only)); refine box_event ?hg (N := 6) ?hd (cs := #[.int .i64 0, .slice none 0 0, .slice none 0 0]) (t := 31) ?hr ?_; (case hd => rfl); (case hg => rfl); (case hr => first | (go_simp; done) | (go_simp; rfl)); intro Xb hg w33 hbox hb; have Xv := Aside0.mk (Kd.R_below (by (with_reducible repeat apply upG); exact Xl.out) hb); have Xw := Aside0.mk (Kd.R_below (by (with_reducible repeat apply upG); exact Xh.out) hb); have Xx := Aside0.mk (blk_below (g := Xg) (o := .cells #[.int .i64 a0_0, .slice Xt Xf.length Xp, .slice Xu Xd.length Xq] 31 (0, 0)) (by exact upB Xa.out) hb); have XC := Aside0.mk (blk_below (g := Xi) (o := .cells #[.int .i64 0, .slice none 0 0, .slice none 0 0] 31 (0, 0)) (by exact upB Xc.out) hb); have XF := Aside0.mk (below_step (by repeat (first | (with_reducible first | exact HB.out | apply upS | refine below_set ?_ Xn.out | refine below_set ?_ Xo.out) | exact HB.out)) hb); have XJ := Aside0.mk (hbox); have Yy := Aside0.mk ((by rw [hg]; exact (below_size (by repeat (first | (with_reducible first | exact HB.out | apply upS | refine below_set ?_ Xn.out | refine below_set ?_ Xo.out) | exact HB.out))) : w.heap.size ≤ Xb)); have YG := Aside0.mk ((by rw [hg]; exact (below_size (by repeat (first | (with_reducible first | exact HB.out | apply upS | refine below_set ?_ Xn.out | refine below_set ?_ Xo.out) | exact HB.out))) : w.heap.size ≤ Xb)); have YH := Aside0.mk ((by rw [hg]; exact Nat.ne_of_lt (blk_lt (g := Xg) (o := .cells #[.int .i64 a0_0, .slice Xt Xf.length Xp, .slice Xu Xd.length Xq] 31 (0, 0)) (by exact upB Xa.out)) : Xg ≠ Xb)); have YI := Aside0.mk ((by rw [hg]; exact Nat.ne_of_gt (blk_lt (g := Xg) (o := .cells #[.int .i64 a0_0, .slice Xt Xf.length Xp, .slice Xu Xd.length Xq] 31 (0, 0)) (by exact upB Xa.out)) : Xb ≠ Xg)); have X7 := Aside0.mk ((by rw [hg]; exact Nat.ne_of_lt (blk_lt (g := Xi) (o := .cells #[.int .i64 0, .slice none 0 0, .slice none 0 0] 31 (0, 0)) (by exact upB Xc.out)) : Xi ≠ Xb)); have X8 := Aside0.mk ((by rw [hg]; exact Nat.ne_of_gt (blk_lt (g := Xi) (o := .cells #[.int .i64 0, .slice none 0 0, .slice none 0 0] 31 (0, 0)) (by exact upB Xc.out)) : Xb ≠ Xi)); clear Xl; clear Xh; clear Xa; clear Xc; clear HB; have Xl := Xv; have Xh := Xw; have Xa := Xx; have Xc := XC; have HB := XF; have Xe := XJ; have YJ := Yy; have XL := YG; have Xr := YH; have XN := YI; have Xs := X7; have XO := X8; clear Xv Xw Xx XC XF XJ Yy YG YH YI X7 X8; clear hb hbox hg; have Vq := XN.out; have Vr := Xr.out; have Vs := XO.out; have Vt := Xs.out; have ZB : w33.cell? ⟨Xb, 0, none⟩ = some (.int .i64 0) := (blk_cell Xe.out 0).trans rfl; have ZC : w33.cell? ⟨Xb, 1, none⟩ = some (.slice none 0 0) := (blk_cell Xe.out 1).trans rfl; have ZD : w33.cell? ⟨Xb, 2, none⟩ = some (.slice none 0 0) := (blk_cell Xe.out 2).trans rfl; have ZE := blk_frozen Xe.out 0; have ZF := blk_frozen Xe.out 1; have ZG := blk_frozen Xe.out 2; obtain ⟨Xy, Xz, eo37⟩ := Kd.R_slice Xl.out; subst eo37; obtain ⟨XK, XA, eo38⟩ := Kd.R_slice Xh.out; subst eo38; have ZH : w33.cell? ⟨Xg, 0, none⟩ = some (.int .i64 a0_0) := (blk_cell Xa.out 0).trans rfl; have ZI : w33.cell? ⟨Xg, 1, none⟩ = some (.slice Xt Xf.length Xp) := (blk_cell Xa.out 1).trans rfl; have ZJ : w33.cell? ⟨Xg, 2, none⟩ = some (.slice Xu Xd.length Xq) := (blk_cell Xa.out 2).trans rfl; have ZK := blk_frozen Xa.out 0; have ZL := blk_frozen Xa.out 1; have ZM := blk_frozen Xa.out 2) | ((with_reducible refine gate_callee (f := 47) rfl ?_); refine goesL_ (some 26) rfl rfl Try.func47 (by kernel_rfl) rfl #[.slice Xt Xf.length Xp] rfl (by (try simp only [List.map_toArray, List.map_cons, List.map_nil]); first | done | rfl | (simp only [List.length_drop, List.length_take]; rfl)) ?_; (with_reducible refine (quadratref06_size.calls kj2 _ _ Xf XW _ ?side1 ?side2 Va.out).mono ?_); (case side1 => exact Kd.C_below XU.out (by repeat (first | (with_reducible first | exact HB.out | apply upS | refine below_set ?_ Xn.out | refine below_set ?_ Xo.out | refine below_set ?_ XL.out) | exact HB.out))); (case side2 => exact XY.out); rintro e w' ⟨rfl, ⟨nd, rfl⟩⟩; refine ⟨_, rfl, ?_⟩))
   have Xv : Aside0 (Kd.R (Kd.int .i64) 3 (((w33.setCell ⟨Xb, 0, none⟩ (.int .i64 Xm)).setCell ⟨Xb, 1, none⟩ (.slice Xy Xk.length Xz)).setCell ⟨Xb, 2, none⟩ (.slice XK Xj.length XA)) w.heap.size (fun k_ => some k_ ≠ (.slice XK Xj.length XA : Value).ownBlock) (.slice Xy Xk.length Xz) Xk) := ⟨by (with_reducible repeat apply upG); exact Kd.R_mono (Kd.R_far (p := ⟨Xb, 2, none⟩) (Kd.R_far (p := ⟨Xb, 1, none⟩) (Kd.R_far (p := ⟨Xb, 0, none⟩) (Kd.R_types Xl.out Xe.out (by decide)) (fun _ hk => hk.2) (.int .i64 Xm)) (fun _ hk => hk.2) (.slice Xy Xk.length Xz)) (fun _ hk => hk.2) (.slice XK Xj.length XA)) (fun _ hk => hk.1)⟩
   have Xw : Aside0 (Kd.R (Kd.int .i64) 3 (((w33.setCell ⟨Xb, 0, none⟩ (.int .i64 Xm)).setCell ⟨Xb, 1, none⟩ (.slice Xy Xk.length Xz)).setCell ⟨Xb, 2, none⟩ (.slice XK Xj.length XA)) w.heap.size (fun k_ => some k_ ≠ (.slice Xy Xk.length Xz : Value).ownBlock) (.slice XK Xj.length XA) Xj) := ⟨by (with_reducible repeat apply upG); exact Kd.R_mono (Kd.R_far (p := ⟨Xb, 2, none⟩) (Kd.R_far (p := ⟨Xb, 1, none⟩) (Kd.R_far (p := ⟨Xb, 0, none⟩) (Kd.R_types Xh.out Xe.out (by decide)) (fun _ hk => hk.2) (.int .i64 Xm)) (fun _ hk => hk.2) (.slice Xy Xk.length Xz)) (fun _ hk => hk.2) (.slice XK Xj.length XA)) (fun _ hk => hk.1)⟩
   have Xx : Aside0 ((((w33.setCell ⟨Xb, 0, none⟩ (.int .i64 Xm)).setCell ⟨Xb, 1, none⟩ (.slice Xy Xk.length Xz)).setCell ⟨Xb, 2, none⟩ (.slice XK Xj.length XA)).heap[Xg]? = some (.cells #[.int .i64 a0_0, .slice Xt Xf.length Xp, .slice Xu Xd.length Xq] 31 (0, 0))) := ⟨by (with_reducible repeat apply upF); refine blk_far ?_ Xr.out _; (with_reducible repeat apply upF); refine blk_far ?_ Xr.out _; (with_reducible repeat apply upF); refine blk_far ?_ Xr.out _; exact upB Xa.out⟩
   have XC : Aside0 ((((w33.setCell ⟨Xb, 0, none⟩ (.int .i64 Xm)).setCell ⟨Xb, 1, none⟩ (.slice Xy Xk.length Xz)).setCell ⟨Xb, 2, none⟩ (.slice XK Xj.length XA)).heap[Xi]? = some (.cells #[.int .i64 0, .slice none 0 0, .slice none 0 0] 31 (0, 0))) := ⟨by (with_reducible repeat apply upF); refine blk_far ?_ Xs.out _; (with_reducible repeat apply upF); refine blk_far ?_ Xs.out _; (with_reducible repeat apply upF); refine blk_far ?_ Xs.out _; exact upB Xc.out⟩
   have XF : Aside0 ((((w33.setCell ⟨Xb, 0, none⟩ (.int .i64 Xm)).setCell ⟨Xb, 1, none⟩ (.slice Xy Xk.length Xz)).setCell ⟨Xb, 2, none⟩ (.slice XK Xj.length XA)).heap[Xb]? = some (.cells #[.int .i64 Xm, .slice Xy Xk.length Xz, .slice XK Xj.length XA] 31 (0, 0))) := ⟨by (with_reducible repeat apply upF); refine blk_put (cs := #[.int .i64 Xm, .slice Xy Xk.length Xz, .slice none 0 0]) ?_ 2 _ rfl; (with_reducible repeat apply upF); refine blk_put (cs := #[.int .i64 Xm, .slice none 0 0, .slice none 0 0]) ?_ 1 _ rfl; (with_reducible repeat apply upF); refine blk_put (cs := #[.int .i64 0, .slice none 0 0, .slice none 0 0]) ?_ 0 _ rfl; exact upB Xe.out⟩
   have XJ : Aside0 (Below w.heap.size w (((w33.setCell ⟨Xb, 0, none⟩ (.int .i64 Xm)).setCell ⟨Xb, 1, none⟩ (.slice Xy Xk.length Xz)).setCell ⟨Xb, 2, none⟩ (.slice XK Xj.length XA))) := ⟨by repeat (first | (with_reducible first | exact HB.out | apply upS | refine below_set ?_ Xn.out | refine below_set ?_ Xo.out | refine below_set ?_ XL.out) | exact HB.out)⟩
   (try clear Xl)
   (try clear Xh)
   (try clear Xa)
   (try clear Xc)
   (try clear Xe)
   (try clear HB)
   generalize (((w33.setCell ⟨Xb, 0, none⟩ (.int .i64 Xm)).setCell ⟨Xb, 1, none⟩ (.slice Xy Xk.length Xz)).setCell ⟨Xb, 2, none⟩ (.slice XK Xj.length XA)) = w40 at Xv Xw Xx XC XF XJ ⊢
   have Xl := Xv
   have Xh := Xw
   have Xa := Xx
   have Xc := XC
   have Xe := XF
   have HB := XJ
   clear Xv Xw Xx XC XF XJ
   (try (rw [drewN_self w40]; generalize hq_ : World.drewN w40 _ = w40; have Xv : Aside0 (Kd.R (Kd.int .i64) 3 w40 w.heap.size (fun k_ => some k_ ≠ (.slice XK Xj.length XA : Value).ownBlock) (.slice Xy Xk.length Xz) Xk) := ⟨by rw [← hq_]; exact (by (with_reducible repeat apply upG); exact Xl.out)⟩; have Xw : Aside0 (Kd.R (Kd.int .i64) 3 w40 w.heap.size (fun k_ => some k_ ≠ (.slice Xy Xk.length Xz : Value).ownBlock) (.slice XK Xj.length XA) Xj) := ⟨by rw [← hq_]; exact (by (with_reducible repeat apply upG); exact Xh.out)⟩; have Xx : Aside0 (w40.heap[Xg]? = some (.cells #[.int .i64 a0_0, .slice Xt Xf.length Xp, .slice Xu Xd.length Xq] 31 (0, 0))) := ⟨by rw [← hq_]; exact (by exact upB Xa.out)⟩; have XC : Aside0 (w40.heap[Xi]? = some (.cells #[.int .i64 0, .slice none 0 0, .slice none 0 0] 31 (0, 0))) := ⟨by rw [← hq_]; exact (by exact upB Xc.out)⟩; have XF : Aside0 (w40.heap[Xb]? = some (.cells #[.int .i64 Xm, .slice Xy Xk.length Xz, .slice XK Xj.length XA] 31 (0, 0))) := ⟨by rw [← hq_]; exact (by exact upB Xe.out)⟩; have XJ : Aside0 (Below w.heap.size w w40) := ⟨by rw [← hq_]; exact (by repeat (first | (with_reducible first | exact HB.out | apply upS | refine below_set ?_ Xn.out | refine below_set ?_ Xo.out | refine below_set ?_ XL.out) | exact HB.out))⟩; clear Xl Xh Xa Xc Xe HB hq_; have Xl := Xv; have Xh := Xw; have Xa := Xx; have Xc := XC; have Xe := XF; have HB := XJ; clear Xv Xw Xx XC XF XJ))
   have Xv := Aside0.mk (Kd.R_drew Xl.out)
   have Xw := Aside0.mk (Kd.R_drew Xh.out)
   have Xx := Aside0.mk (blk_drew Xa.out)
   have XC := Aside0.mk (blk_drew Xc.out)
   have XF := Aside0.mk (blk_drew Xe.out)
   have XJ := Aside0.mk (below_drew1 HB.out)
   clear Xl
   clear Xh
   clear Xa
   clear Xc
   clear Xe
   clear HB
   have Xl := Xv
   have Xh := Xw
   have Xa := Xx
   have Xc := XC
   have Xe := XF
   have HB := XJ
   clear Xv Xw Xx XC XF XJ
   have p511 : 0 ≤ (a1 : Int) := of_decide_eq_true (by first | (with_reducible assumption) | assumption)
   have q511 : a1 < (Xf.length : Int) := of_decide_eq_true (by first | (with_reducible assumption) | assumption)
   obtain ⟨ad511, e511, XR⟩ := Kd.at_int XU.out a1 p511 q511
   have X2 := XR
   cases e511
   replace XR := (HB.out.cell (World.block_lt_of_cell? w _ XR)).trans XR
   replace p511 := eq_true p511
   replace q511 := eq_true q511
   have p512 : 0 ≤ (a1 : Int) := of_decide_eq_true (by first | (with_reducible assumption) | assumption)
   have q512 : a1 < (Xd.length : Int) := of_decide_eq_true (by first | (with_reducible assumption) | assumption)
   obtain ⟨ad512, e512, XS⟩ := Kd.at_int XV.out a1 p512 q512
   have X3 := XS
   cases e512
   replace XS := (HB.out.cell (World.block_lt_of_cell? w _ XS)).trans XS
   replace p512 := eq_true p512
   replace q512 := eq_true q512
   refine start_ (n := 17) (S := fun w' => w'.cell? ⟨Xb, 0, none⟩ = some (.int .i64 Xm) ∧ w'.cell? ⟨Xb, 1, none⟩ = some (.slice Xy Xk.length Xz) ∧ w'.cell? ⟨Xb, 2, none⟩ = some (.slice XK Xj.length XA) ∧ w'.cell? ⟨Xg, 0, none⟩ = some (.int .i64 a0_0) ∧ w'.cell? ⟨Xg, 1, none⟩ = some (.slice (some ad511) Xf.length Xp) ∧ w'.cell? ⟨Xg, 2, none⟩ = some (.slice (some ad512) Xd.length Xq) ∧ w'.cell? (ad511.add (a1).toNat) = some (.int .i64 (rd Xf a1)) ∧ w'.cell? (ad512.add (a1).toNat) = some (.int .i64 (rd Xd a1))) (ds := [16]) #[false, false, false, false, false, false, false, false, false, false, false, false, false, false, false, false, false] (by kernel_rfl) rfl rfl ⟨(blk_cell Xe.out 0).trans rfl, (blk_cell Xe.out 1).trans rfl, (blk_cell Xe.out 2).trans rfl, (blk_cell Xa.out 0).trans rfl, (blk_cell Xa.out 1).trans rfl, (blk_cell Xa.out 2).trans rfl, ((HB.out.cell (World.block_lt_of_cell? w _ X2)).trans X2), ((HB.out.cell (World.block_lt_of_cell? w _ X3)).trans X3)⟩ (fun hHeld => ?_); refine with_tabW quadratref06_Reverse.tab5 quadratref06_Reverse.bits5 (fun HT_ HW_ => ?_)
   generalize w40.drew = w41 at Xl Xh Xa Xc Xe HB XR XS hHeld ⊢
   refine pure_ (i := 0) (N := some 28) (v := ?_) (a' := ?_) #[true, false, false, false, false, false, false, false, false, false, false, false, false, false, false, false, false] rfl rfl (any_of HT_.out (by kernel_rfl)) (fun _ _ _ h => h) (Or.inl ⟨by rfl, ?_⟩) ?_ ?_
   rotate_left
   · intro w'; go_simp; with_reducible rfl
   rotate_left
   · simp only [Act.put, List.setIfInBounds_toArray, List.set_cons_zero, List.set_cons_succ, i64_w, i32_w]; rfl
   refine pure_ (i := 2) (N := some 30) (v := ?_) (a' := ?_) #[true, false, true, false, false, false, false, false, false, false, false, false, false, false, false, false, false] rfl rfl (any_of HT_.out (by kernel_rfl)) (fun _ _ _ h => h) (Or.inl ⟨by rfl, ?_⟩) ?_ ?_
   rotate_left
   · intro w'; go_simp; with_reducible rfl
   rotate_left
   · simp only [Act.put, List.setIfInBounds_toArray, List.set_cons_zero, List.set_cons_succ, i64_w, i32_w]; rfl
   refine pure_ (i := 4) (N := some 32) (v := ?_) (a' := ?_) #[true, false, true, false, true, false, false, false, false, false, false, false, false, false, false, false, false] rfl rfl (any_of HT_.out (by kernel_rfl)) (fun _ _ _ h => h) (Or.inl ⟨by rfl, ?_⟩) ?_ ?_
   rotate_left
   · intro w'; go_simp; with_reducible rfl
   rotate_left
   · simp only [Act.put, List.setIfInBounds_toArray, List.set_cons_zero, List.set_cons_succ, i64_w, i32_w]; rfl
   refine pure_ (i := 8) (N := some 36) (v := ?_) (a' := ?_) #[true, false, true, false, true, false, false, false, true, false, false, false, false, false, false, false, false] rfl rfl (any_of HT_.out (by kernel_rfl)) (fun _ _ _ h => h) (Or.inl ⟨by rfl, ?_⟩) ?_ ?_
   rotate_left
   · intro w'; go_simp; with_reducible rfl
   rotate_left
   · simp only [Act.put, List.setIfInBounds_toArray, List.set_cons_zero, List.set_cons_succ, i64_w, i32_w]; rfl
   refine pure_ (i := 10) (N := some 38) (v := ?_) (a' := ?_) #[true, false, true, false, true, false, false, false, true, false, true, false, false, false, false, false, false] rfl rfl (any_of HT_.out (by kernel_rfl)) (fun _ _ _ h => h) (Or.inl ⟨by rfl, ?_⟩) ?_ ?_
   rotate_left
   · intro w'; go_simp; with_reducible rfl
   rotate_left
   · simp only [Act.put, List.setIfInBounds_toArray, List.set_cons_zero, List.set_cons_succ, i64_w, i32_w]; rfl
   refine take_ (i := 1) (N := some 29) (v := ?_) (a' := ?_) #[true, true, true, false, true, false, false, false, true, false, true, false, false, false, false, false, false] rfl rfl (take_ofW HT_.out HW_.out (by kernel_rfl)) (fun _ _ _ h => h) (Or.inl ⟨by rfl, ?_⟩) hHeld ?_ ?_
   rotate_left
   · rintro w' ⟨s0, s1, s2, s3, s4, s5, s6, s7⟩
     go_simp
     with_reducible rfl
   rotate_left
   · simp only [Act.put, List.setIfInBounds_toArray, List.set_cons_zero, List.set_cons_succ, i64_w, i32_w]; rfl
   refine take_ (i := 3) (N := some 31) (v := ?_) (a' := ?_) #[true, true, true, true, true, false, false, false, true, false, true, false, false, false, false, false, false] rfl rfl (take_ofW HT_.out HW_.out (by kernel_rfl)) (fun _ _ _ h => h) (Or.inl ⟨by rfl, ?_⟩) hHeld ?_ ?_
   rotate_left
   · rintro w' ⟨s0, s1, s2, s3, s4, s5, s6, s7⟩
     go_simp
     with_reducible rfl
   rotate_left
   · simp only [Act.put, List.setIfInBounds_toArray, List.set_cons_zero, List.set_cons_succ, i64_w, i32_w]; rfl
   refine pure_ (i := 5) (N := some 33) (v := ?_) (a' := ?_) #[true, true, true, true, true, true, false, false, true, false, true, false, false, false, false, false, false] rfl rfl (any_of HT_.out (by kernel_rfl)) (fun _ _ _ h => h) (Or.inl ⟨by rfl, ?_⟩) ?_ ?_
   rotate_left
   · intro w'; go_simp; with_reducible rfl
   rotate_left
   · simp only [Act.put, List.setIfInBounds_toArray, List.set_cons_zero, List.set_cons_succ, i64_w, i32_w]; rfl
   refine take_ (i := 6) (N := some 34) (v := ?_) (a' := ?_) #[true, true, true, true, true, true, true, false, true, false, true, false, false, false, false, false, false] rfl rfl (take_ofW HT_.out HW_.out (by kernel_rfl)) (fun _ _ _ h => h) (Or.inl ⟨by rfl, ?_⟩) hHeld ?_ ?_
   rotate_left
   · rintro w' ⟨s0, s1, s2, s3, s4, s5, s6, s7⟩
     go_simp
     with_reducible rfl
   rotate_left
   · simp only [Act.put, List.setIfInBounds_toArray, List.set_cons_zero, List.set_cons_succ, i64_w, i32_w]; rfl
   refine pure_ (i := 7) (N := some 35) (v := ?_) (a' := ?_) #[true, true, true, true, true, true, true, true, true, false, true, false, false, false, false, false, false] rfl rfl (any_of HT_.out (by kernel_rfl)) (fun _ _ _ h => h) (Or.inl ⟨by rfl, ?_⟩) ?_ ?_
   rotate_left
   · intro w'; go_simp; with_reducible rfl
   rotate_left
   · simp only [Act.put, List.setIfInBounds_toArray, List.set_cons_zero, List.set_cons_succ, i64_w, i32_w]; rfl
   refine take_ (i := 9) (N := some 37) (v := ?_) (a' := ?_) #[true, true, true, true, true, true, true, true, true, true, true, false, false, false, false, false, false] rfl rfl (take_ofW HT_.out HW_.out (by kernel_rfl)) (fun _ _ _ h => h) (Or.inl ⟨by rfl, ?_⟩) hHeld ?_ ?_
   rotate_left
   · rintro w' ⟨s0, s1, s2, s3, s4, s5, s6, s7⟩
     go_simp
     with_reducible rfl
   rotate_left
   · simp only [Act.put, List.setIfInBounds_toArray, List.set_cons_zero, List.set_cons_succ, i64_w, i32_w]; rfl
   refine pure_ (i := 11) (N := some 39) (v := ?_) (a' := ?_) #[true, true, true, true, true, true, true, true, true, true, true, true, false, false, false, false, false] rfl rfl (any_of HT_.out (by kernel_rfl)) (fun _ _ _ h => h) (Or.inl ⟨by rfl, ?_⟩) ?_ ?_
   rotate_left
   · intro w'; go_simp; with_reducible rfl
   rotate_left
   · simp only [Act.put, List.setIfInBounds_toArray, List.set_cons_zero, List.set_cons_succ, i64_w, i32_w]; rfl
   refine take_ (i := 12) (N := some 40) (v := ?_) (a' := ?_) #[true, true, true, true, true, true, true, true, true, true, true, true, true, false, false, false, false] rfl rfl (take_ofW HT_.out HW_.out (by kernel_rfl)) (fun _ _ _ h => h) (Or.inl ⟨by rfl, ?_⟩) hHeld ?_ ?_
   rotate_left
   · rintro w' ⟨s0, s1, s2, s3, s4, s5, s6, s7⟩
     go_simp
     with_reducible rfl
   rotate_left
   · simp only [Act.put, List.setIfInBounds_toArray, List.set_cons_zero, List.set_cons_succ, i64_w, i32_w]; rfl
   refine pure_ (i := 13) (N := some 41) (v := ?_) (a' := ?_) #[true, true, true, true, true, true, true, true, true, true, true, true, true, true, false, false, false] rfl rfl (any_of HT_.out (by kernel_rfl)) (fun _ _ _ h => h) (Or.inl ⟨by rfl, ?_⟩) ?_ ?_
   rotate_left
   · intro w'; go_simp; with_reducible rfl
   rotate_left
   · simp only [Act.put, List.setIfInBounds_toArray, List.set_cons_zero, List.set_cons_succ, i64_w, i32_w]; rfl
   refine pure_ (i := 14) (N := some 42) (v := ?_) (a' := ?_) #[true, true, true, true, true, true, true, true, true, true, true, true, true, true, true, false, false] rfl rfl (any_of HT_.out (by kernel_rfl)) (fun _ _ _ h => h) (Or.inl ⟨by rfl, ?_⟩) ?_ ?_
   rotate_left
   · intro w'; go_simp; with_reducible rfl
   rotate_left
   · simp only [Act.put, List.setIfInBounds_toArray, List.set_cons_zero, List.set_cons_succ, i64_w, i32_w]; rfl
   refine pure_ (i := 15) (N := some 43) (v := ?_) (a' := ?_) #[true, true, true, true, true, true, true, true, true, true, true, true, true, true, true, true, false] rfl rfl (any_of HT_.out (by kernel_rfl)) (fun _ _ _ h => h) (Or.inl ⟨by rfl, ?_⟩) ?_ ?_
   rotate_left
   · intro w'; go_simp; with_reducible rfl
   rotate_left
   · simp only [Act.put, List.setIfInBounds_toArray, List.set_cons_zero, List.set_cons_succ, i64_w, i32_w]; rfl
   refine last_ (i := 16) (N := none) #[true, true, true, true, true, true, true, true, true, true, true, true, true, true, true, true, true] rfl rfl (one_of HT_.out (by kernel_rfl)) (by decide) (fun K hK => ?_)
   have hs42 : w41.cell? ⟨Xb, 0, none⟩ = some (.int .i64 Xm) := (blk_cell Xe.out 0).trans rfl
   have hfs42 := blk_frozen Xe.out 0
   have hns42_0 := Xr.out
   have hns42_1 := Xs.out
   have hms42_0 := XN.out
   have hms42_1 := XO.out
   refine skip_ (w1 := ?_) (by rfl) rfl ?_ ?_
   rotate_left
   · go_simp
     rfl
   refine hK.out _ _ ?_
   clear hK K
   refine done_ (done_of HT_.out (by kernel_rfl)) ?_
   try go_wp2
   have Xv : Aside0 (Kd.R (Kd.int .i64) 3 (w41.setCell ⟨Xb, 0, none⟩ (.int .i64 (wrap64 (Xm + (wrap64 ((wrap64 ((rd Xf a1) - 1)) * (rd Xd a1))))))) w.heap.size (fun k_ => some k_ ≠ (.slice XK Xj.length XA : Value).ownBlock) (.slice Xy Xk.length Xz) Xk) := ⟨by (with_reducible repeat apply upG); exact Kd.R_mono (Kd.R_far (p := ⟨Xb, 0, none⟩) (Kd.R_types Xl.out Xe.out (by decide)) (fun _ hk => hk.2) (.int .i64 (wrap64 (Xm + (wrap64 ((wrap64 ((rd Xf a1) - 1)) * (rd Xd a1))))))) (fun _ hk => hk.1)⟩
   have Xw : Aside0 (Kd.R (Kd.int .i64) 3 (w41.setCell ⟨Xb, 0, none⟩ (.int .i64 (wrap64 (Xm + (wrap64 ((wrap64 ((rd Xf a1) - 1)) * (rd Xd a1))))))) w.heap.size (fun k_ => some k_ ≠ (.slice Xy Xk.length Xz : Value).ownBlock) (.slice XK Xj.length XA) Xj) := ⟨by (with_reducible repeat apply upG); exact Kd.R_mono (Kd.R_far (p := ⟨Xb, 0, none⟩) (Kd.R_types Xh.out Xe.out (by decide)) (fun _ hk => hk.2) (.int .i64 (wrap64 (Xm + (wrap64 ((wrap64 ((rd Xf a1) - 1)) * (rd Xd a1))))))) (fun _ hk => hk.1)⟩
   have Xx : Aside0 ((w41.setCell ⟨Xb, 0, none⟩ (.int .i64 (wrap64 (Xm + (wrap64 ((wrap64 ((rd Xf a1) - 1)) * (rd Xd a1))))))).heap[Xg]? = some (.cells #[.int .i64 a0_0, .slice (some ad511) Xf.length Xp, .slice (some ad512) Xd.length Xq] 31 (0, 0))) := ⟨by (with_reducible repeat apply upF); refine blk_far ?_ Xr.out _; exact upB Xa.out⟩
   have XC : Aside0 ((w41.setCell ⟨Xb, 0, none⟩ (.int .i64 (wrap64 (Xm + (wrap64 ((wrap64 ((rd Xf a1) - 1)) * (rd Xd a1))))))).heap[Xi]? = some (.cells #[.int .i64 0, .slice none 0 0, .slice none 0 0] 31 (0, 0))) := ⟨by (with_reducible repeat apply upF); refine blk_far ?_ Xs.out _; exact upB Xc.out⟩
   have XF : Aside0 ((w41.setCell ⟨Xb, 0, none⟩ (.int .i64 (wrap64 (Xm + (wrap64 ((wrap64 ((rd Xf a1) - 1)) * (rd Xd a1))))))).heap[Xb]? = some (.cells #[.int .i64 (wrap64 (Xm + (wrap64 ((wrap64 ((rd Xf a1) - 1)) * (rd Xd a1))))), .slice Xy Xk.length Xz, .slice XK Xj.length XA] 31 (0, 0))) := ⟨by (with_reducible repeat apply upF); refine blk_put (cs := #[.int .i64 Xm, .slice Xy Xk.length Xz, .slice XK Xj.length XA]) ?_ 0 _ rfl; exact upB Xe.out⟩
   have XJ : Aside0 (Below w.heap.size w (w41.setCell ⟨Xb, 0, none⟩ (.int .i64 (wrap64 (Xm + (wrap64 ((wrap64 ((rd Xf a1) - 1)) * (rd Xd a1)))))))) := ⟨by repeat (first | (with_reducible first | exact HB.out | apply upS | refine below_set ?_ Xn.out | refine below_set ?_ Xo.out | refine below_set ?_ XL.out) | exact HB.out)⟩
   (try clear Xl)
   (try clear Xh)
   (try clear Xa)
   (try clear Xc)
   (try clear Xe)
   (try clear HB)
   generalize (w41.setCell ⟨Xb, 0, none⟩ (.int .i64 (wrap64 (Xm + (wrap64 ((wrap64 ((rd Xf a1) - 1)) * (rd Xd a1))))))) = w43 at Xv Xw Xx XC XF XJ ⊢
   have Xl := Xv
   have Xh := Xw
   have Xa := Xx
   have Xc := XC
   have Xe := XF
   have HB := XJ
   clear Xv Xw Xx XC XF XJ
   have Xv := Aside0.mk (Kd.R_drew Xl.out)
   have Xw := Aside0.mk (Kd.R_drew Xh.out)
   have Xx := Aside0.mk (blk_drew Xa.out)
   have XC := Aside0.mk (blk_drew Xc.out)
   have XF := Aside0.mk (blk_drew Xe.out)
   have XJ := Aside0.mk (below_drew1 HB.out)
   clear Xl
   clear Xh
   clear Xa
   clear Xc
   clear Xe
   clear HB
   have Xl := Xv
   have Xh := Xw
   have Xa := Xx
   have Xc := XC
   have Xe := XF
   have HB := XJ
   clear Xv Xw Xx XC XF XJ
   have p513 : 0 ≤ (a1 : Int) := of_decide_eq_true (by first | (with_reducible assumption) | assumption)
   have q513 : a1 < (Xd.length : Int) := of_decide_eq_true (by first | (with_reducible assumption) | assumption)
   obtain ⟨ad513, e513, XT⟩ := Kd.at_int XV.out a1 p513 q513
   have X4 := XT
   obtain rfl : ad512 = ad513 := (by injection e513)
   replace XT := (HB.out.cell (World.block_lt_of_cell? w _ XT)).trans XT
   replace p513 := eq_true p513
   replace q513 := eq_true q513
   have p29 : 0 ≤ (a1 : Int) := of_decide_eq_true (by first | (with_reducible assumption) | assumption)
   have q29 : (a1 : Int) < ((Xj.length : Int) : Int) := of_decide_eq_true (by first | (with_reducible assumption) | assumption)
   obtain ⟨go29, Vy, eo29, YL, gl29, cl29, HG29⟩ := Kd.R_form Xh.out (by omega)
   (first | cases eo29 | (injection eo29 with ea_ en_ ec_; (first | subst ea_ | (injection ea_ with ea_; subst ea_)); subst ec_; clear en_))
   have GB29 := Aside0.mk YL
   have GG29 := Aside0.mk HG29
   clear YL gl29 HG29
   obtain ⟨YB, hf29_0⟩ := Kd.R_celln 0 Xh.out (a1 : Int) p29 q29
   replace p29 := eq_true p29
   replace q29 := eq_true q29
   have HP45 := Kd.R_putn Xh.out (a1 : Int) (wrap64 (-(rd Xd a1)))
   rw [← Ny514.out] at HP45
   have HQ45 := Aside0.mk HP45
   clear HP45
   refine start_ (n := 11) (S := fun w' => w'.cell? ⟨Xb, 0, none⟩ = some (.int .i64 (wrap64 (Xm + (wrap64 ((wrap64 ((rd Xf a1) - 1)) * (rd Xd a1)))))) ∧ w'.cell? ⟨Xb, 1, none⟩ = some (.slice Xy Xk.length Xz) ∧ w'.cell? ⟨Xb, 2, none⟩ = some (.slice (some ⟨go29, 0, none⟩) Xj.length XA) ∧ w'.cell? ⟨Xg, 0, none⟩ = some (.int .i64 a0_0) ∧ w'.cell? ⟨Xg, 1, none⟩ = some (.slice (some ad511) Xf.length Xp) ∧ w'.cell? ⟨Xg, 2, none⟩ = some (.slice (some ad512) Xd.length Xq) ∧ w'.cell? (ad512.add (a1).toNat) = some (.int .i64 (rd Xd a1))) (ds := [10]) #[false, false, false, false, false, false, false, false, false, false, false] (by kernel_rfl) rfl rfl ⟨(blk_cell Xe.out 0).trans rfl, (blk_cell Xe.out 1).trans rfl, (blk_cell Xe.out 2).trans rfl, (blk_cell Xa.out 0).trans rfl, (blk_cell Xa.out 1).trans rfl, (blk_cell Xa.out 2).trans rfl, ((HB.out.cell (World.block_lt_of_cell? w _ X4)).trans X4)⟩ (fun hHeld => ?_); refine with_tabW quadratref06_Reverse.tab6 quadratref06_Reverse.bits6 (fun HT_ HW_ => ?_)
   generalize w43.drew = w44 at Xl Xh Xa Xc Xe HB GG29 HQ45 hf29_0 YB XT hHeld ⊢
   refine pure_ (i := 0) (N := some 44) (v := ?_) (a' := ?_) #[true, false, false, false, false, false, false, false, false, false, false] rfl rfl (any_of HT_.out (by kernel_rfl)) (fun _ _ _ h => h) (Or.inl ⟨by rfl, ?_⟩) ?_ ?_
   rotate_left
   · intro w'; go_simp; with_reducible rfl
   rotate_left
   · simp only [Act.put, List.setIfInBounds_toArray, List.set_cons_zero, List.set_cons_succ, i64_w, i32_w]; rfl
   refine pure_ (i := 2) (N := some 46) (v := ?_) (a' := ?_) #[true, false, true, false, false, false, false, false, false, false, false] rfl rfl (any_of HT_.out (by kernel_rfl)) (fun _ _ _ h => h) (Or.inl ⟨by rfl, ?_⟩) ?_ ?_
   rotate_left
   · intro w'; go_simp; with_reducible rfl
   rotate_left
   · simp only [Act.put, List.setIfInBounds_toArray, List.set_cons_zero, List.set_cons_succ, i64_w, i32_w]; rfl
   refine pure_ (i := 3) (N := some 47) (v := ?_) (a' := ?_) #[true, false, true, true, false, false, false, false, false, false, false] rfl rfl (any_of HT_.out (by kernel_rfl)) (fun _ _ _ h => h) (Or.inl ⟨by rfl, ?_⟩) ?_ ?_
   rotate_left
   · intro w'; go_simp; with_reducible rfl
   rotate_left
   · simp only [Act.put, List.setIfInBounds_toArray, List.set_cons_zero, List.set_cons_succ, i64_w, i32_w]; rfl
   refine pure_ (i := 5) (N := some 49) (v := ?_) (a' := ?_) #[true, false, true, true, false, true, false, false, false, false, false] rfl rfl (any_of HT_.out (by kernel_rfl)) (fun _ _ _ h => h) (Or.inl ⟨by rfl, ?_⟩) ?_ ?_
   rotate_left
   · intro w'; go_simp; with_reducible rfl
   rotate_left
   · simp only [Act.put, List.setIfInBounds_toArray, List.set_cons_zero, List.set_cons_succ, i64_w, i32_w]; rfl
   refine take_ (i := 1) (N := some 45) (v := ?_) (a' := ?_) #[true, true, true, true, false, true, false, false, false, false, false] rfl rfl (take_ofW HT_.out HW_.out (by kernel_rfl)) (fun _ _ _ h => h) (Or.inl ⟨by rfl, ?_⟩) hHeld ?_ ?_
   rotate_left
   · rintro w' ⟨s0, s1, s2, s3, s4, s5, s6⟩
     go_simp
     with_reducible rfl
   rotate_left
   · simp only [Act.put, List.setIfInBounds_toArray, List.set_cons_zero, List.set_cons_succ, i64_w, i32_w]; rfl
   refine take_ (i := 4) (N := some 48) (v := ?_) (a' := ?_) #[true, true, true, true, true, true, false, false, false, false, false] rfl rfl (take_ofW HT_.out HW_.out (by kernel_rfl)) (fun _ _ _ h => h) (Or.inl ⟨by rfl, ?_⟩) hHeld ?_ ?_
   rotate_left
   · rintro w' ⟨s0, s1, s2, s3, s4, s5, s6⟩
     go_simp
     with_reducible rfl
   rotate_left
   · simp only [Act.put, List.setIfInBounds_toArray, List.set_cons_zero, List.set_cons_succ, i64_w, i32_w]; rfl
   refine pure_ (i := 6) (N := some 50) (v := ?_) (a' := ?_) #[true, true, true, true, true, true, true, false, false, false, false] rfl rfl (any_of HT_.out (by kernel_rfl)) (fun _ _ _ h => h) (Or.inl ⟨by rfl, ?_⟩) ?_ ?_
   rotate_left
   · intro w'; go_simp; with_reducible rfl
   rotate_left
   · simp only [Act.put, List.setIfInBounds_toArray, List.set_cons_zero, List.set_cons_succ, i64_w, i32_w]; rfl
   refine take_ (i := 7) (N := some 51) (v := ?_) (a' := ?_) #[true, true, true, true, true, true, true, true, false, false, false] rfl rfl (take_ofW HT_.out HW_.out (by kernel_rfl)) (fun _ _ _ h => h) (Or.inl ⟨by rfl, ?_⟩) hHeld ?_ ?_
   rotate_left
   · rintro w' ⟨s0, s1, s2, s3, s4, s5, s6⟩
     go_simp
     with_reducible rfl
   rotate_left
   · simp only [Act.put, List.setIfInBounds_toArray, List.set_cons_zero, List.set_cons_succ, i64_w, i32_w]; rfl
   refine pure_ (i := 8) (N := some 52) (v := ?_) (a' := ?_) #[true, true, true, true, true, true, true, true, true, false, false] rfl rfl (any_of HT_.out (by kernel_rfl)) (fun _ _ _ h => h) (Or.inl ⟨by rfl, ?_⟩) ?_ ?_
   rotate_left
   · intro w'; go_simp; with_reducible rfl
   rotate_left
   · simp only [Act.put, List.setIfInBounds_toArray, List.set_cons_zero, List.set_cons_succ, i64_w, i32_w]; rfl
   refine pure_ (i := 9) (N := some 53) (v := ?_) (a' := ?_) #[true, true, true, true, true, true, true, true, true, true, false] rfl rfl (any_of HT_.out (by kernel_rfl)) (fun _ _ _ h => h) (Or.inl ⟨by rfl, ?_⟩) ?_ ?_
   rotate_left
   · intro w'; go_simp; with_reducible rfl
   rotate_left
   · simp only [Act.put, List.setIfInBounds_toArray, List.set_cons_zero, List.set_cons_succ, i64_w, i32_w]; rfl
   refine last_ (i := 10) (N := none) #[true, true, true, true, true, true, true, true, true, true, true] rfl rfl (one_of HT_.out (by kernel_rfl)) (by decide) (fun K hK => ?_)
   refine skip_ (w1 := ?_) (by rfl) rfl ?_ ?_
   rotate_left
   · go_simp
     rfl
   refine hK.out _ _ ?_
   clear hK K
   refine done_ (done_of HT_.out (by kernel_rfl)) ?_
   have Xv : Aside0 (Kd.R (Kd.int .i64) 3 (w44.setCell ⟨go29, (a1 : Int).toNat, none⟩ (.int .i64 (wrap64 (-(rd Xd a1))))) w.heap.size (fun k_ => some k_ ≠ (.slice (some ⟨go29, 0, none⟩) Xj.length XA : Value).ownBlock) (.slice Xy Xk.length Xz) Xk) := ⟨by (with_reducible repeat apply upG); exact Kd.R_mono (Kd.R_far (p := ⟨go29, (a1 : Int).toNat, none⟩) (Kd.R_mono Xl.out (fun k_ hk => (⟨hk, fun e_ => hk (by rw [e_]; rfl)⟩ : _ ∧ k_ ≠ go29))) (fun _ hk => hk.2) (.int .i64 (wrap64 (-(rd Xd a1))))) (fun _ hk => hk.1)⟩
   have Xw : Aside0 (Kd.R (Kd.int .i64) 3 (w44.setCell ⟨go29, (a1 : Int).toNat, none⟩ (.int .i64 (wrap64 (-(rd Xd a1))))) w.heap.size (fun k_ => some k_ ≠ (.slice Xy Xk.length Xz : Value).ownBlock) (.slice (some ⟨go29, 0, none⟩) Xj.length XA) y514) := ⟨by (with_reducible repeat apply upG); exact HQ45.out⟩
   have Xx : Aside0 ((w44.setCell ⟨go29, (a1 : Int).toNat, none⟩ (.int .i64 (wrap64 (-(rd Xd a1))))).heap[Xg]? = some (.cells #[.int .i64 a0_0, .slice (some ad511) Xf.length Xp, .slice (some ad512) Xd.length Xq] 31 (0, 0))) := ⟨by (with_reducible repeat apply upF); refine blk_far ?_ (by have h_ := Kd.R_ne Xh.out Xa.out (by decide); intro e_; exact h_ (by rw [e_]; rfl)) _; exact upB Xa.out⟩
   have XC : Aside0 ((w44.setCell ⟨go29, (a1 : Int).toNat, none⟩ (.int .i64 (wrap64 (-(rd Xd a1))))).heap[Xi]? = some (.cells #[.int .i64 0, .slice none 0 0, .slice none 0 0] 31 (0, 0))) := ⟨by (with_reducible repeat apply upF); refine blk_far ?_ (by have h_ := Kd.R_ne Xh.out Xc.out (by decide); intro e_; exact h_ (by rw [e_]; rfl)) _; exact upB Xc.out⟩
   have XF : Aside0 ((w44.setCell ⟨go29, (a1 : Int).toNat, none⟩ (.int .i64 (wrap64 (-(rd Xd a1))))).heap[Xb]? = some (.cells #[.int .i64 (wrap64 (Xm + (wrap64 ((wrap64 ((rd Xf a1) - 1)) * (rd Xd a1))))), .slice Xy Xk.length Xz, .slice (some ⟨go29, 0, none⟩) Xj.length XA] 31 (0, 0))) := ⟨by (with_reducible repeat apply upF); refine blk_far ?_ (by have h_ := Kd.R_ne Xh.out Xe.out (by decide); intro e_; exact h_ (by rw [e_]; rfl)) _; exact upB Xe.out⟩
   have XJ : Aside0 (Below w.heap.size w (w44.setCell ⟨go29, (a1 : Int).toNat, none⟩ (.int .i64 (wrap64 (-(rd Xd a1)))))) := ⟨by repeat (first | (with_reducible first | exact HB.out | apply upS | refine below_set ?_ GB29.out | refine below_set ?_ Xn.out | refine below_set ?_ Xo.out | refine below_set ?_ XL.out) | exact HB.out)⟩
   (try clear Xl)
   (try clear Xh)
   (try clear Xa)
   (try clear Xc)
   (try clear Xe)
   (try clear HB)
   generalize (w44.setCell ⟨go29, (a1 : Int).toNat, none⟩ (.int .i64 (wrap64 (-(rd Xd a1))))) = w46 at Xv Xw Xx XC XF XJ ⊢
   have Xl := Xv
   have Xh := Xw
   have Xa := Xx
   have Xc := XC
   have Xe := XF
   have HB := XJ
   clear Xv Xw Xx XC XF XJ
   have ZN : w46.cell? ⟨Xb, 0, none⟩ = some (.int .i64 (wrap64 (Xm + (wrap64 ((wrap64 ((rd Xf a1) - 1)) * (rd Xd a1)))))) := (blk_cell Xe.out 0).trans rfl
   have ZO : w46.cell? ⟨Xb, 1, none⟩ = some (.slice Xy Xk.length Xz) := (blk_cell Xe.out 1).trans rfl
   have ZP : w46.cell? ⟨Xb, 2, none⟩ = some (.slice (some ⟨go29, 0, none⟩) Xj.length XA) := (blk_cell Xe.out 2).trans rfl
   have ZQ := blk_frozen Xe.out 0
   have ZR := blk_frozen Xe.out 1
   have ZS := blk_frozen Xe.out 2
   have ZT : w46.cell? ⟨Xi, 0, none⟩ = some (.int .i64 0) := (blk_cell Xc.out 0).trans rfl
   have ZU : w46.cell? ⟨Xi, 1, none⟩ = some (.slice none 0 0) := (blk_cell Xc.out 1).trans rfl
   have ZV : w46.cell? ⟨Xi, 2, none⟩ = some (.slice none 0 0) := (blk_cell Xc.out 2).trans rfl
   have ZW := blk_frozen Xc.out 0
   have ZX := blk_frozen Xc.out 1
   have ZY := blk_frozen Xc.out 2
   try go_wp2
   refine bodyPost_ret (results_ct rfl _ _ Xi 31 #[.int .i64 (wrap64 (Xm + (wrap64 ((wrap64 ((rd Xf a1) - 1)) * (rd Xd a1))))), .slice Xy Xk.length Xz, .slice (some ⟨go29, 0, none⟩) Xj.length XA] (0, 0) _ rfl (by (with_reducible repeat apply upF); refine blk_put (cs := #[.int .i64 (wrap64 (Xm + (wrap64 ((wrap64 ((rd Xf a1) - 1)) * (rd Xd a1))))), .slice Xy Xk.length Xz, .slice none 0 0]) ?_ 2 _ rfl; (with_reducible repeat apply upF); refine blk_put (cs := #[.int .i64 (wrap64 (Xm + (wrap64 ((wrap64 ((rd Xf a1) - 1)) * (rd Xd a1))))), .slice none 0 0, .slice none 0 0]) ?_ 1 _ rfl; (with_reducible repeat apply upF); refine blk_put (cs := #[.int .i64 0, .slice none 0 0, .slice none 0 0]) ?_ 0 _ rfl; exact upB Xc.out) Try.underlying31 rfl (by kernel_rfl)) rfl ?_
   exact ⟨_, _, by first | rfl | (simp [errW_none, errW_some] <;> rfl) | (simp [*, errW_none, errW_some] <;> rfl), by (with_reducible repeat apply upG); exact Kd.R_mono (Kd.R_far (p := ⟨Xi, 2, none⟩) (Kd.R_far (p := ⟨Xi, 1, none⟩) (Kd.R_far (p := ⟨Xi, 0, none⟩) (Kd.R_types Xl.out Xc.out (by decide)) (fun _ hk => hk.2) (.int .i64 (wrap64 (Xm + (wrap64 ((wrap64 ((rd Xf a1) - 1)) * (rd Xd a1))))))) (fun _ hk => hk.2) (.slice Xy Xk.length Xz)) (fun _ hk => hk.2) (.slice (some ⟨go29, 0, none⟩) Xj.length XA)) (fun _ hk => hk.1), by (with_reducible repeat apply upG); exact Kd.R_mono (Kd.R_far (p := ⟨Xi, 2, none⟩) (Kd.R_far (p := ⟨Xi, 1, none⟩) (Kd.R_far (p := ⟨Xi, 0, none⟩) (Kd.R_types Xh.out Xc.out (by decide)) (fun _ hk => hk.2) (.int .i64 (wrap64 (Xm + (wrap64 ((wrap64 ((rd Xf a1) - 1)) * (rd Xd a1))))))) (fun _ hk => hk.2) (.slice Xy Xk.length Xz)) (fun _ hk => hk.2) (.slice (some ⟨go29, 0, none⟩) Xj.length XA)) (fun _ hk => hk.1), by repeat (first | (with_reducible first | exact HB.out | apply upS | refine below_set ?_ Xn.out | refine below_set ?_ Xo.out | refine below_set ?_ XL.out) | exact HB.out)⟩

end Go.Proofs.Yticjlkommabcjaa.PS
