-- Printed by wip/qprint.py of this repository, over the kit's print, out of the translation. Not trusted: Lean checks it.
import Derived.Test.YticjlkommabcjaaPSx0
import Derived.Test.YticjlkommabcjaaPSx8
import Derived.Test.YticjlkommabcjaaUp
namespace Go.Proofs.Yticjlkommabcjaa.PS
open Go.RowKit Go.Proofs.YticjlkommabcjaaW.PrintWords Go.Proofs.YticjlkommabcjaaW.PrintLast Go.Proofs.YticjlkommabcjaaW.PrintMore
attribute [local go_sem] max2_int min2_int max_two min_two max_three min_three max_four min_four   -- for this text's walks alone
set_option linter.unusedVariables false
set_option linter.unusedSimpArgs false
set_option maxRecDepth 100000

/-! ### quadratref06_Same: function 17 -/
def quadratref06_Same.f (k : Nat) (a0_0 : Int) (Xf : List Int) (Xe : List Int) (a1_0 : Int) (Xo : List Int) (Xj : List Int) : Option (Bool) := if a0_0 = a1_0 then ((quadratref06_SameInts.f k Xf Xo).bind fun Xz => (if Xz = true then ((quadratref06_SameInts.f k Xe Xj).bind fun Xq => (some Xq)) else (some false))) else (some false)
theorem quadratref06_Same.mono : ∀ a0 a1 a2 a3 a4 a5 k, LeO (quadratref06_Same.f k a0 a1 a2 a3 a4 a5) (quadratref06_Same.f (k + 1) a0 a1 a2 a3 a4 a5) := by
  intro a0 a1 a2 a3 a4 a5 k
  unfold quadratref06_Same.f
  repeat' first
      | (with_reducible exact quadratref06_SameInts.mono _ _ _)
      | (with_reducible exact LeO.refl _)
      | (with_reducible exact LeO.none _)
      | (with_reducible refine LeO.ite ?_ ?_)
      | (with_reducible refine LeO.bind ?_ (fun _ => ?_))
      | exact quadratref06_SameInts.mono _ _ _
      | exact LeO.none _
      | refine LeO.ite ?_ ?_
      | refine LeO.bind ?_ (fun _ => ?_)
set_option maxHeartbeats 8000000 in
set_option maxRecDepth 100000 in
theorem quadratref06_Same.calls (k : Nat) (a0_0 : Int) (Xk : Option Addr) (Xl : Nat) (Xf : List Int) (Xm : Option Addr) (Xn : Nat) (Xe : List Int) (a1_0 : Int) (Xr : Option Addr) (Xs : Nat) (Xo : List Int) (Xt : Option Addr) (Xu : Nat) (Xj : List Int) (r : Bool) (w : World) (hr0_1 : Kd.C (Kd.int .i64) w Xk Xf.length Xf) (hc0_1 : Xf.length ≤ Xl) (hr0_2 : Kd.C (Kd.int .i64) w Xm Xe.length Xe) (hc0_2 : Xe.length ≤ Xn) (hr1_1 : Kd.C (Kd.int .i64) w Xr Xo.length Xo) (hc1_1 : Xo.length ≤ Xs) (hr1_2 : Kd.C (Kd.int .i64) w Xt Xj.length Xj) (hc1_2 : Xj.length ≤ Xu) (h : quadratref06_Same.f k a0_0 Xf Xe a1_0 Xo Xj = some r) :
    Calls Try.prog 17 #[.agg #[.int .i64 a0_0, .slice Xk Xf.length Xl, .slice Xm Xe.length Xn], .agg #[.int .i64 a1_0, .slice Xr Xo.length Xs, .slice Xt Xj.length Xu]] w fun e w' => e = .returned (.bool r) ∧ Below w.heap.size w w' := by
  have hu31 := Try.underlying31
  have XA := Aside0.mk hr0_1
  have XB := Aside0.mk hc0_1
  clear hr0_1 hc0_1
  have XJ := Aside0.mk hr0_2
  have XK := Aside0.mk hc0_2
  clear hr0_2 hc0_2
  have XC := Aside0.mk hr1_1
  have XD := Aside0.mk hc1_1
  clear hr1_1 hc1_1
  have XL := Aside0.mk hr1_2
  have XM := Aside0.mk hc1_2
  clear hr1_2 hc1_2
  have HB := Aside0.mk (Below.refl w.heap.size w)
  have H : (if a0_0 = a1_0 then ((quadratref06_SameInts.f k Xf Xo).bind fun Xz => (if Xz = true then ((quadratref06_SameInts.f k Xe Xj).bind fun Xq => (some Xq)) else (some false))) else (some false)) = some r := h
  clear h
  by_cases c3 : a0_0 = a1_0
  case neg =>
   rw [if_neg c3] at H
   have Yn : (a0_0 == a1_0) = false := beq_eq_false_iff_ne.mpr c3
   have Yo : (a0_0 != a1_0) = true := bne_iff_ne.mpr c3
   obtain rfl := Option.some.inj H
   go_enter Try.func17, Try.ntmps17
   go_wp2_with (first | ((with_reducible refine gate_dst (N := 2) rfl ?_); refine box_event ?hg (N := 2) ?hd (cs := #[.int .i64 a0_0, .slice Xk Xf.length Xl, .slice Xm Xe.length Xn]) (t := 31) ?hr ?_; (case hd => rfl); (case hg => rfl); (case hr => first | (go_simp; done) | (go_simp; rfl)); intro Xb hg w17 hbox hb; have Xv := Aside0.mk (below_step (by exact upL HB.out) hb); have Xw := Aside0.mk (hbox); have Xx := Aside0.mk ((by rw [hg]; exact (below_size (by exact upL HB.out)) : w.heap.size ≤ Xb)); have Xy := Aside0.mk ((by rw [hg]; exact (below_size (by exact upL HB.out)) : w.heap.size ≤ Xb)); clear HB; have HB := Xv; have Xa := Xw; have XE := Xx; have Xg := Xy; clear Xv Xw Xx Xy; clear hb hbox hg) | ((with_reducible refine gate_dst (N := 3) rfl ?_); refine box_event ?hg (N := 3) ?hd (cs := #[.int .i64 a1_0, .slice Xr Xo.length Xs, .slice Xt Xj.length Xu]) (t := 31) ?hr ?_; (case hd => rfl); (case hg => rfl); (case hr => first | (go_simp; done) | (go_simp; rfl)); intro Xc hg w18 hbox hb; have Xv := Aside0.mk (blk_below (g := Xb) (o := .cells #[.int .i64 a0_0, .slice Xk Xf.length Xl, .slice Xm Xe.length Xn] 31 (0, 0)) (by exact upB Xa.out) hb); have Xw := Aside0.mk (below_step (by repeat (first | (with_reducible first | exact HB.out | apply upS | refine below_set ?_ Xg.out) | exact HB.out)) hb); have Xx := Aside0.mk (hbox); have Xy := Aside0.mk ((by rw [hg]; exact (below_size (by repeat (first | (with_reducible first | exact HB.out | apply upS | refine below_set ?_ Xg.out) | exact HB.out))) : w.heap.size ≤ Xc)); have XF := Aside0.mk ((by rw [hg]; exact (below_size (by repeat (first | (with_reducible first | exact HB.out | apply upS | refine below_set ?_ Xg.out) | exact HB.out))) : w.heap.size ≤ Xc)); have XG := Aside0.mk ((by rw [hg]; exact Nat.ne_of_lt (blk_lt (g := Xb) (o := .cells #[.int .i64 a0_0, .slice Xk Xf.length Xl, .slice Xm Xe.length Xn] 31 (0, 0)) (by exact upB Xa.out)) : Xb ≠ Xc)); have XH := Aside0.mk ((by rw [hg]; exact Nat.ne_of_gt (blk_lt (g := Xb) (o := .cells #[.int .i64 a0_0, .slice Xk Xf.length Xl, .slice Xm Xe.length Xn] 31 (0, 0)) (by exact upB Xa.out)) : Xc ≠ Xb)); clear Xa; clear HB; have Xa := Xv; have HB := Xw; have Xd := Xx; have XI := Xy; have Xp := XF; have Xh := XG; have Xi := XH; clear Xv Xw Xx Xy XF XG XH; clear hb hbox hg; have Yp := Xh.out; have Yq := Xi.out; have XN : w18.cell? ⟨Xb, 0, none⟩ = some (.int .i64 a0_0) := (blk_cell Xa.out 0).trans rfl; have XO : w18.cell? ⟨Xb, 1, none⟩ = some (.slice Xk Xf.length Xl) := (blk_cell Xa.out 1).trans rfl; have XP : w18.cell? ⟨Xb, 2, none⟩ = some (.slice Xm Xe.length Xn) := (blk_cell Xa.out 2).trans rfl; have XQ := blk_frozen Xa.out 0; have XR := blk_frozen Xa.out 1; have XS := blk_frozen Xa.out 2; have XT : w18.cell? ⟨Xc, 0, none⟩ = some (.int .i64 a1_0) := (blk_cell Xd.out 0).trans rfl; have XU : w18.cell? ⟨Xc, 1, none⟩ = some (.slice Xr Xo.length Xs) := (blk_cell Xd.out 1).trans rfl; have XV : w18.cell? ⟨Xc, 2, none⟩ = some (.slice Xt Xj.length Xu) := (blk_cell Xd.out 2).trans rfl; have XW := blk_frozen Xd.out 0; have XX := blk_frozen Xd.out 1; have XY := blk_frozen Xd.out 2))
   go_ret
   exact ⟨by first | rfl | (simp [errW_none, errW_some] <;> rfl) | (simp [*, errW_none, errW_some] <;> rfl), by repeat (first | (with_reducible first | exact HB.out | apply upS | refine below_set ?_ Xg.out | refine below_set ?_ Xp.out) | exact HB.out)⟩
  rw [if_pos c3] at H
  have Yn : (a0_0 == a1_0) = true := beq_iff_eq.mpr c3
  have Yo : (a0_0 != a1_0) = false := bne_eq_false_iff_eq.mpr c3
  clear c3
  replace H := Option.bind_eq_some_iff.mp H
  obtain ⟨Xz, Yr, H⟩ := H
  replace H : (if Xz = true then ((quadratref06_SameInts.f k Xe Xj).bind fun Xq => (some Xq)) else (some false)) = some r := H
  have A4 := Aside0.mk Yr
  clear Yr
  by_cases c5 : Xz = true
  case neg =>
   replace c5 := Bool.eq_false_iff.mpr c5
   subst c5
   have H1 : (some false) = some r := by rw [if_neg (show ¬ (false = true) by decide)] at H; exact H
   clear H
   have H := H1
   clear H1
   obtain rfl := Option.some.inj H
   go_enter Try.func17, Try.ntmps17
   go_wp2_with (first | ((with_reducible refine gate_dst (N := 2) rfl ?_); refine box_event ?hg (N := 2) ?hd (cs := #[.int .i64 a0_0, .slice Xk Xf.length Xl, .slice Xm Xe.length Xn]) (t := 31) ?hr ?_; (case hd => rfl); (case hg => rfl); (case hr => first | (go_simp; done) | (go_simp; rfl)); intro Xb hg w12 hbox hb; have Xv := Aside0.mk (below_step (by exact upL HB.out) hb); have Xw := Aside0.mk (hbox); have Xx := Aside0.mk ((by rw [hg]; exact (below_size (by exact upL HB.out)) : w.heap.size ≤ Xb)); have Xy := Aside0.mk ((by rw [hg]; exact (below_size (by exact upL HB.out)) : w.heap.size ≤ Xb)); clear HB; have HB := Xv; have Xa := Xw; have XE := Xx; have Xg := Xy; clear Xv Xw Xx Xy; clear hb hbox hg) | ((with_reducible refine gate_dst (N := 3) rfl ?_); refine box_event ?hg (N := 3) ?hd (cs := #[.int .i64 a1_0, .slice Xr Xo.length Xs, .slice Xt Xj.length Xu]) (t := 31) ?hr ?_; (case hd => rfl); (case hg => rfl); (case hr => first | (go_simp; done) | (go_simp; rfl)); intro Xc hg w13 hbox hb; have Xv := Aside0.mk (blk_below (g := Xb) (o := .cells #[.int .i64 a0_0, .slice Xk Xf.length Xl, .slice Xm Xe.length Xn] 31 (0, 0)) (by exact upB Xa.out) hb); have Xw := Aside0.mk (below_step (by repeat (first | (with_reducible first | exact HB.out | apply upS | refine below_set ?_ Xg.out) | exact HB.out)) hb); have Xx := Aside0.mk (hbox); have Xy := Aside0.mk ((by rw [hg]; exact (below_size (by repeat (first | (with_reducible first | exact HB.out | apply upS | refine below_set ?_ Xg.out) | exact HB.out))) : w.heap.size ≤ Xc)); have XF := Aside0.mk ((by rw [hg]; exact (below_size (by repeat (first | (with_reducible first | exact HB.out | apply upS | refine below_set ?_ Xg.out) | exact HB.out))) : w.heap.size ≤ Xc)); have XG := Aside0.mk ((by rw [hg]; exact Nat.ne_of_lt (blk_lt (g := Xb) (o := .cells #[.int .i64 a0_0, .slice Xk Xf.length Xl, .slice Xm Xe.length Xn] 31 (0, 0)) (by exact upB Xa.out)) : Xb ≠ Xc)); have XH := Aside0.mk ((by rw [hg]; exact Nat.ne_of_gt (blk_lt (g := Xb) (o := .cells #[.int .i64 a0_0, .slice Xk Xf.length Xl, .slice Xm Xe.length Xn] 31 (0, 0)) (by exact upB Xa.out)) : Xc ≠ Xb)); clear Xa; clear HB; have Xa := Xv; have HB := Xw; have Xd := Xx; have XI := Xy; have Xp := XF; have Xh := XG; have Xi := XH; clear Xv Xw Xx Xy XF XG XH; clear hb hbox hg; have Ys := Xh.out; have Yt := Xi.out; have XZ : w13.cell? ⟨Xb, 0, none⟩ = some (.int .i64 a0_0) := (blk_cell Xa.out 0).trans rfl; have X0 : w13.cell? ⟨Xb, 1, none⟩ = some (.slice Xk Xf.length Xl) := (blk_cell Xa.out 1).trans rfl; have X1 : w13.cell? ⟨Xb, 2, none⟩ = some (.slice Xm Xe.length Xn) := (blk_cell Xa.out 2).trans rfl; have X2 := blk_frozen Xa.out 0; have X3 := blk_frozen Xa.out 1; have X4 := blk_frozen Xa.out 2; have X5 : w13.cell? ⟨Xc, 0, none⟩ = some (.int .i64 a1_0) := (blk_cell Xd.out 0).trans rfl; have X6 : w13.cell? ⟨Xc, 1, none⟩ = some (.slice Xr Xo.length Xs) := (blk_cell Xd.out 1).trans rfl; have X7 : w13.cell? ⟨Xc, 2, none⟩ = some (.slice Xt Xj.length Xu) := (blk_cell Xd.out 2).trans rfl; have X8 := blk_frozen Xd.out 0; have X9 := blk_frozen Xd.out 1; have Ya := blk_frozen Xd.out 2) | (go_at_call 22; (with_reducible refine (quadratref06_SameInts.calls k _ _ Xf _ _ Xo false _ ?side1 ?side2 ?side3 ?side4 A4.out).mono ?_); (case side1 => repeat (first | exact (Kd.C_below XA.out HB.out) | (with_reducible refine Kd.C_alloc ?_ _) | (with_reducible refine Kd.C_drewN ?_ _) | (with_reducible refine Kd.C_drew ?_))); (case side2 => exact XB.out); (case side3 => repeat (first | exact (Kd.C_below XC.out HB.out) | (with_reducible refine Kd.C_alloc ?_ _) | (with_reducible refine Kd.C_drewN ?_ _) | (with_reducible refine Kd.C_drew ?_))); (case side4 => exact XD.out); rintro e w' ⟨rfl, ⟨nd, rfl⟩⟩))
   go_ret
   exact ⟨by first | rfl | (simp [errW_none, errW_some] <;> rfl) | (simp [*, errW_none, errW_some] <;> rfl), by repeat (first | (with_reducible first | exact HB.out | apply upS | refine below_set ?_ Xg.out | refine below_set ?_ Xp.out) | exact HB.out)⟩
  subst c5
  have H1 : ((quadratref06_SameInts.f k Xe Xj).bind fun Xq => (some Xq)) = some r := by rw [if_pos rfl] at H; exact H
  clear H
  have H := H1
  clear H1
  replace H := Option.bind_eq_some_iff.mp H
  obtain ⟨Xq, Yu, H⟩ := H
  replace H : (some Xq) = some r := H
  have A6 := Aside0.mk Yu
  clear Yu
  obtain rfl := Option.some.inj H
  go_enter Try.func17, Try.ntmps17
  go_wp2_with (first | ((with_reducible refine gate_dst (N := 2) rfl ?_); refine box_event ?hg (N := 2) ?hd (cs := #[.int .i64 a0_0, .slice Xk Xf.length Xl, .slice Xm Xe.length Xn]) (t := 31) ?hr ?_; (case hd => rfl); (case hg => rfl); (case hr => first | (go_simp; done) | (go_simp; rfl)); intro Xb hg w7 hbox hb; have Xv := Aside0.mk (below_step (by exact upL HB.out) hb); have Xw := Aside0.mk (hbox); have Xx := Aside0.mk ((by rw [hg]; exact (below_size (by exact upL HB.out)) : w.heap.size ≤ Xb)); have Xy := Aside0.mk ((by rw [hg]; exact (below_size (by exact upL HB.out)) : w.heap.size ≤ Xb)); clear HB; have HB := Xv; have Xa := Xw; have XE := Xx; have Xg := Xy; clear Xv Xw Xx Xy; clear hb hbox hg) | ((with_reducible refine gate_dst (N := 3) rfl ?_); refine box_event ?hg (N := 3) ?hd (cs := #[.int .i64 a1_0, .slice Xr Xo.length Xs, .slice Xt Xj.length Xu]) (t := 31) ?hr ?_; (case hd => rfl); (case hg => rfl); (case hr => first | (go_simp; done) | (go_simp; rfl)); intro Xc hg w8 hbox hb; have Xv := Aside0.mk (blk_below (g := Xb) (o := .cells #[.int .i64 a0_0, .slice Xk Xf.length Xl, .slice Xm Xe.length Xn] 31 (0, 0)) (by exact upB Xa.out) hb); have Xw := Aside0.mk (below_step (by repeat (first | (with_reducible first | exact HB.out | apply upS | refine below_set ?_ Xg.out) | exact HB.out)) hb); have Xx := Aside0.mk (hbox); have Xy := Aside0.mk ((by rw [hg]; exact (below_size (by repeat (first | (with_reducible first | exact HB.out | apply upS | refine below_set ?_ Xg.out) | exact HB.out))) : w.heap.size ≤ Xc)); have XF := Aside0.mk ((by rw [hg]; exact (below_size (by repeat (first | (with_reducible first | exact HB.out | apply upS | refine below_set ?_ Xg.out) | exact HB.out))) : w.heap.size ≤ Xc)); have XG := Aside0.mk ((by rw [hg]; exact Nat.ne_of_lt (blk_lt (g := Xb) (o := .cells #[.int .i64 a0_0, .slice Xk Xf.length Xl, .slice Xm Xe.length Xn] 31 (0, 0)) (by exact upB Xa.out)) : Xb ≠ Xc)); have XH := Aside0.mk ((by rw [hg]; exact Nat.ne_of_gt (blk_lt (g := Xb) (o := .cells #[.int .i64 a0_0, .slice Xk Xf.length Xl, .slice Xm Xe.length Xn] 31 (0, 0)) (by exact upB Xa.out)) : Xc ≠ Xb)); clear Xa; clear HB; have Xa := Xv; have HB := Xw; have Xd := Xx; have XI := Xy; have Xp := XF; have Xh := XG; have Xi := XH; clear Xv Xw Xx Xy XF XG XH; clear hb hbox hg; have Yv := Xh.out; have Yw := Xi.out; have Yb : w8.cell? ⟨Xb, 0, none⟩ = some (.int .i64 a0_0) := (blk_cell Xa.out 0).trans rfl; have Yc : w8.cell? ⟨Xb, 1, none⟩ = some (.slice Xk Xf.length Xl) := (blk_cell Xa.out 1).trans rfl; have Yd : w8.cell? ⟨Xb, 2, none⟩ = some (.slice Xm Xe.length Xn) := (blk_cell Xa.out 2).trans rfl; have Ye := blk_frozen Xa.out 0; have Yf := blk_frozen Xa.out 1; have Yg := blk_frozen Xa.out 2; have Yh : w8.cell? ⟨Xc, 0, none⟩ = some (.int .i64 a1_0) := (blk_cell Xd.out 0).trans rfl; have Yi : w8.cell? ⟨Xc, 1, none⟩ = some (.slice Xr Xo.length Xs) := (blk_cell Xd.out 1).trans rfl; have Yj : w8.cell? ⟨Xc, 2, none⟩ = some (.slice Xt Xj.length Xu) := (blk_cell Xd.out 2).trans rfl; have Yk := blk_frozen Xd.out 0; have Yl := blk_frozen Xd.out 1; have Ym := blk_frozen Xd.out 2) | (go_at_call 22; (with_reducible refine (quadratref06_SameInts.calls k _ _ Xf _ _ Xo true _ ?side1 ?side2 ?side3 ?side4 A4.out).mono ?_); (case side1 => repeat (first | exact (Kd.C_below XA.out HB.out) | (with_reducible refine Kd.C_alloc ?_ _) | (with_reducible refine Kd.C_drewN ?_ _) | (with_reducible refine Kd.C_drew ?_))); (case side2 => exact XB.out); (case side3 => repeat (first | exact (Kd.C_below XC.out HB.out) | (with_reducible refine Kd.C_alloc ?_ _) | (with_reducible refine Kd.C_drewN ?_ _) | (with_reducible refine Kd.C_drew ?_))); (case side4 => exact XD.out); rintro e w' ⟨rfl, ⟨nd, rfl⟩⟩) | (go_at_call 22; (with_reducible refine (quadratref06_SameInts.calls k _ _ Xe _ _ Xj Xq _ ?side1 ?side2 ?side3 ?side4 A6.out).mono ?_); (case side1 => repeat (first | exact (Kd.C_below XJ.out (by repeat (first | (with_reducible first | exact HB.out | apply upS | refine below_set ?_ Xg.out | refine below_set ?_ Xp.out) | exact HB.out))) | (with_reducible refine Kd.C_alloc ?_ _) | (with_reducible refine Kd.C_drewN ?_ _) | (with_reducible refine Kd.C_drew ?_))); (case side2 => exact XK.out); (case side3 => repeat (first | exact (Kd.C_below XL.out (by repeat (first | (with_reducible first | exact HB.out | apply upS | refine below_set ?_ Xg.out | refine below_set ?_ Xp.out) | exact HB.out))) | (with_reducible refine Kd.C_alloc ?_ _) | (with_reducible refine Kd.C_drewN ?_ _) | (with_reducible refine Kd.C_drew ?_))); (case side4 => exact XM.out); rintro e w' ⟨rfl, ⟨nd, rfl⟩⟩))
  go_ret
  exact ⟨by first | rfl | (simp [errW_none, errW_some] <;> rfl) | (simp [*, errW_none, errW_some] <;> rfl), by repeat (first | (with_reducible first | exact HB.out | apply upS | refine below_set ?_ Xg.out | refine below_set ?_ Xp.out) | exact HB.out)⟩

end Go.Proofs.Yticjlkommabcjaa.PS
