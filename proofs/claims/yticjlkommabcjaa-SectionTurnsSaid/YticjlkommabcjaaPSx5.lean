-- Printed by wip/qprint.py of this repository, over the kit's print, out of the translation. Not trusted: Lean checks it.
import Derived.Test.YticjlkommabcjaaPSx0
import Derived.Test.YticjlkommabcjaaPSx3
import Derived.Test.YticjlkommabcjaaPSx4
import Derived.Test.YticjlkommabcjaaUp
namespace Go.Proofs.Yticjlkommabcjaa.PS
open Go.RowKit Go.Proofs.YticjlkommabcjaaW.PrintWords Go.Proofs.YticjlkommabcjaaW.PrintLast Go.Proofs.YticjlkommabcjaaW.PrintMore
attribute [local go_sem] max2_int min2_int max_two min_two max_three min_three max_four min_four   -- for this text's walks alone
set_option linter.unusedVariables false
set_option linter.unusedSimpArgs false
set_option maxRecDepth 100000

/-! ### section_Valid: function 23 -/
def section_Valid.j0 : Nat → Int → Bool → Int → List Int → List Int → Option (Bool)
  | 0, _, _, _, _, _ => none
  | k + 1, x3, Yz, Xm, Xu, Xv => if Yz = true then (some false) else (if x3 = 0 then (some true) else (if Xm > 2147483648 then (some false) else ((section_ends.f k Xm Xu Xv).bind fun Xl => (if Xl.1 ≥ 0 then (some (decide (Xl.2 ≤ 2147483648))) else (some false)))))
def section_Valid.f (k : Nat) (a0_0 : Int) (Xb : List Int) (Xc : List Int) : Option (Bool) := (section_size.f k Xb).bind fun Xe => (if Xe < 0 then (section_Valid.j0 k Xe true a0_0 Xb Xc) else (if (Xc.length : Int) = (Xb.length : Int) then (if a0_0 < 0 then (section_Valid.j0 k Xe true a0_0 Xb Xc) else ((slices_ContainsFunc_g49.f k Xc).bind fun Xk => (section_Valid.j0 k Xe Xk a0_0 Xb Xc))) else (section_Valid.j0 k Xe true a0_0 Xb Xc)))
theorem section_Valid.mono_l : ∀ k, (∀ y0 y1 y2 y3 y4, LeO (section_Valid.j0 k y0 y1 y2 y3 y4) (section_Valid.j0 (k + 1) y0 y1 y2 y3 y4))
  | 0 => fun _ _ _ _ _ r h => by simp [section_Valid.j0] at h
  | k + 1 => by
    have ih0 := section_Valid.mono_l k
    · intro y0 y1 y2 y3 y4
      unfold section_Valid.j0
      repeat' first
      | (with_reducible exact ih0 _ _ _ _ _)
      | (with_reducible exact section_ends.mono _ _ _ _)
      | (with_reducible exact section_size.mono _ _)
      | (with_reducible exact slices_ContainsFunc_g49.mono _ _)
      | (with_reducible exact LeO.refl _)
      | (with_reducible exact LeO.none _)
      | (with_reducible refine LeO.ite ?_ ?_)
      | (with_reducible refine LeO.bind ?_ (fun _ => ?_))
      | exact ih0 _ _ _ _ _
      | exact section_ends.mono _ _ _ _
      | exact section_size.mono _ _
      | exact slices_ContainsFunc_g49.mono _ _
      | exact LeO.none _
      | refine LeO.ite ?_ ?_
      | refine LeO.bind ?_ (fun _ => ?_)
theorem section_Valid.mono : ∀ a0 a1 a2 k, LeO (section_Valid.f k a0 a1 a2) (section_Valid.f (k + 1) a0 a1 a2) := by
  intro a0 a1 a2 k
  have ih0 := section_Valid.mono_l k
  unfold section_Valid.f
  repeat' first
      | (with_reducible exact ih0 _ _ _ _ _)
      | (with_reducible exact section_ends.mono _ _ _ _)
      | (with_reducible exact section_size.mono _ _)
      | (with_reducible exact slices_ContainsFunc_g49.mono _ _)
      | (with_reducible exact LeO.refl _)
      | (with_reducible exact LeO.none _)
      | (with_reducible refine LeO.ite ?_ ?_)
      | (with_reducible refine LeO.bind ?_ (fun _ => ?_))
      | exact ih0 _ _ _ _ _
      | exact section_ends.mono _ _ _ _
      | exact section_size.mono _ _
      | exact slices_ContainsFunc_g49.mono _ _
      | exact LeO.none _
      | refine LeO.ite ?_ ?_
      | refine LeO.bind ?_ (fun _ => ?_)
set_option maxHeartbeats 8000000 in
set_option maxRecDepth 100000 in
theorem section_Valid.calls (k : Nat) (a0_0 : Int) (Xg : Option Addr) (Xh : Nat) (Xb : List Int) (Xi : Option Addr) (Xj : Nat) (Xc : List Int) (r : Bool) (w : World) (hr0_1 : Kd.C (Kd.int .i64) w Xg Xb.length Xb) (hc0_1 : Xb.length ≤ Xh) (hr0_2 : Kd.C (Kd.int .i64) w Xi Xc.length Xc) (hc0_2 : Xc.length ≤ Xj) (h : section_Valid.f k a0_0 Xb Xc = some r) :
    Calls Try.prog 23 #[.agg #[.int .i64 a0_0, .slice Xg Xb.length Xh, .slice Xi Xc.length Xj]] w fun e w' => e = .returned (.bool r) ∧ Below w.heap.size w w' := by
  have hu31 := Try.underlying31
  have Xq := Aside0.mk hr0_1
  have Xr := Aside0.mk hc0_1
  clear hr0_1 hc0_1
  have Xs := Aside0.mk hr0_2
  have Xt := Aside0.mk hc0_2
  clear hr0_2 hc0_2
  have HB := Aside0.mk (Below.refl w.heap.size w)
  have H : ((section_size.f k Xb).bind fun Xe => (if Xe < 0 then (section_Valid.j0 k Xe true a0_0 Xb Xc) else (if (Xc.length : Int) = (Xb.length : Int) then (if a0_0 < 0 then (section_Valid.j0 k Xe true a0_0 Xb Xc) else ((slices_ContainsFunc_g49.f k Xc).bind fun Xk => (section_Valid.j0 k Xe Xk a0_0 Xb Xc))) else (section_Valid.j0 k Xe true a0_0 Xb Xc)))) = some r := h
  clear h
  replace H := Option.bind_eq_some_iff.mp H
  obtain ⟨Xe, Yu, H⟩ := H
  replace H : (if Xe < 0 then (section_Valid.j0 k Xe true a0_0 Xb Xc) else (if (Xc.length : Int) = (Xb.length : Int) then (if a0_0 < 0 then (section_Valid.j0 k Xe true a0_0 Xb Xc) else ((slices_ContainsFunc_g49.f k Xc).bind fun Xk => (section_Valid.j0 k Xe Xk a0_0 Xb Xc))) else (section_Valid.j0 k Xe true a0_0 Xb Xc))) = some r := H
  have A2 := Aside0.mk Yu
  clear Yu
  have Yt := Aside0.mk H
  clear H
  go_enter Try.func23, Try.ntmps23
  go_upto_region 2 with (first | ((with_reducible refine gate_dst (N := 1) rfl ?_); (try (refine gate_guard (by rfl) ?_; dsimp only)); refine box_event ?hg (N := 1) ?hd (cs := #[.int .i64 a0_0, .slice Xg Xb.length Xh, .slice Xi Xc.length Xj]) (t := 31) ?hr ?_; (case hd => rfl); (case hg => rfl); (case hr => first | (go_simp; done) | (go_simp; rfl)); intro Xd hg w4 hbox hb; have XI := Aside0.mk (below_step (by exact upL HB.out) hb); have XJ := Aside0.mk (hbox); have Yv := Aside0.mk ((by rw [hg]; exact (below_size (by exact upL HB.out)) : w.heap.size ≤ Xd)); have Yw := Aside0.mk ((by rw [hg]; exact (below_size (by exact upL HB.out)) : w.heap.size ≤ Xd)); clear HB; have HB := XI; have Xa := XJ; have Yx := Yv; have Xf := Yw; clear XI XJ Yv Yw; clear hb hbox hg; have XK : w4.cell? ⟨Xd, 0, none⟩ = some (.int .i64 a0_0) := (blk_cell Xa.out 0).trans rfl; have XL : w4.cell? ⟨Xd, 1, none⟩ = some (.slice Xg Xb.length Xh) := (blk_cell Xa.out 1).trans rfl; have XM : w4.cell? ⟨Xd, 2, none⟩ = some (.slice Xi Xc.length Xj) := (blk_cell Xa.out 2).trans rfl; have XN := blk_frozen Xa.out 0; have XO := blk_frozen Xa.out 1; have XP := blk_frozen Xa.out 2) | ((with_reducible refine gate_callee (f := 46) rfl ?_); refine goesL_ (some 8) rfl rfl Try.func46 (by kernel_rfl) rfl #[.slice Xg Xb.length Xh] rfl (by (try simp only [List.map_toArray, List.map_cons, List.map_nil]); first | done | rfl | (simp only [List.length_drop, List.length_take]; rfl)) ?_; (with_reducible refine (section_size.calls k _ _ Xb Xe _ ?side1 ?side2 A2.out).mono ?_); (case side1 => repeat (first | exact (Kd.C_below Xq.out HB.out) | (with_reducible refine Kd.C_alloc ?_ _) | (with_reducible refine Kd.C_drewN ?_ _) | (with_reducible refine Kd.C_drew ?_))); (case side2 => exact Xr.out); rintro e w' ⟨rfl, ⟨nd, rfl⟩⟩; refine ⟨_, rfl, ?_⟩))
  (try simp only [Act.put, List.setIfInBounds_toArray, List.set_cons_zero, List.set_cons_succ])
  go_cut [29] (fun v29 wc => ∃ (kq : Nat) (Xn : Bool), v29 = .bool Xn ∧ Aside0 (section_Valid.j0 kq Xe Xn a0_0 Xb Xc = some r) ∧ Aside0 (kq ≤ k) ∧ Aside0 (wc.heap[Xd]? = some (.cells #[.int .i64 a0_0, (.slice Xg Xb.length Xh), (.slice Xi Xc.length Xj)] 31 (0, 0))) ∧ Aside0 (Below w.heap.size w wc))
  case first =>
   have H := Yt.out
   clear Yt
   by_cases c6 : Xe < 0
   case pos =>
    rw [if_pos c6] at H
    have Xo : decide (Xe < 0) = true := decide_eq_true c6
    clear c6
    (first | rw [Xo] | (simp only [i64_w, i32_w]; rw [Xo]) | skip)
    have H' := Aside0.mk H
    clear H
    go_wp2
    go_meet
    case rel => exact ⟨_, (true), (by first | rfl | (simp; done) | (simp [*]; done)), H', ⟨by first | omega | exact Nat.le_refl _⟩, ⟨by exact upB Xa.out⟩, ⟨by repeat (first | (with_reducible first | exact HB.out | apply upS | refine below_set ?_ Xf.out) | exact HB.out)⟩⟩
   rw [if_neg c6] at H
   have Xo : decide (Xe < 0) = false := decide_eq_false c6
   clear c6
   (first | rw [Xo] | (simp only [i64_w, i32_w]; rw [Xo]) | skip)
   by_cases c7 : (Xc.length : Int) = (Xb.length : Int)
   case neg =>
    rw [if_neg c7] at H
    have X0 : ((Xc.length : Int) == (Xb.length : Int)) = false := beq_eq_false_iff_ne.mpr c7
    have X1 : ((Xc.length : Int) != (Xb.length : Int)) = true := bne_iff_ne.mpr c7
    have X2 : (Xc.length == Xb.length) = false := by first | simpa using c7 | (simp at c7 ⊢; omega)
    have H' := Aside0.mk H
    clear H
    have Xw : w4.cell? ⟨Xd, 0, none⟩ = some (.int .i64 a0_0) := (blk_cell Xa.out 0).trans rfl
    have Xx : w4.cell? ⟨Xd, 1, none⟩ = some (.slice Xg Xb.length Xh) := (blk_cell Xa.out 1).trans rfl
    have Xy : w4.cell? ⟨Xd, 2, none⟩ = some (.slice Xi Xc.length Xj) := (blk_cell Xa.out 2).trans rfl
    have Xz := blk_frozen Xa.out 0
    have XA := blk_frozen Xa.out 1
    have XB := blk_frozen Xa.out 2
    go_wp2
    go_meet
    case rel => exact ⟨_, (true), (by first | rfl | (simp; done) | (simp [*]; done)), H', ⟨by first | omega | exact Nat.le_refl _⟩, ⟨by exact upB Xa.out⟩, ⟨by repeat (first | (with_reducible first | exact HB.out | apply upS | refine below_set ?_ Xf.out) | exact HB.out)⟩⟩
   rw [if_pos c7] at H
   have X0 : ((Xc.length : Int) == (Xb.length : Int)) = true := beq_iff_eq.mpr c7
   have X1 : ((Xc.length : Int) != (Xb.length : Int)) = false := bne_eq_false_iff_eq.mpr c7
   have X2 : (Xc.length == Xb.length) = true := by first | simpa using c7 | (simp at c7 ⊢; omega)
   clear c7
   by_cases c8 : a0_0 < 0
   case pos =>
    rw [if_pos c8] at H
    have X3 : decide (a0_0 < 0) = true := decide_eq_true c8
    clear c8
    have H' := Aside0.mk H
    clear H
    have XQ : w4.cell? ⟨Xd, 0, none⟩ = some (.int .i64 a0_0) := (blk_cell Xa.out 0).trans rfl
    have XR : w4.cell? ⟨Xd, 1, none⟩ = some (.slice Xg Xb.length Xh) := (blk_cell Xa.out 1).trans rfl
    have XS : w4.cell? ⟨Xd, 2, none⟩ = some (.slice Xi Xc.length Xj) := (blk_cell Xa.out 2).trans rfl
    have XT := blk_frozen Xa.out 0
    have XU := blk_frozen Xa.out 1
    have XV := blk_frozen Xa.out 2
    go_wp2
    go_meet
    case rel => exact ⟨_, (true), (by first | rfl | (simp; done) | (simp [*]; done)), H', ⟨by first | omega | exact Nat.le_refl _⟩, ⟨by exact upB Xa.out⟩, ⟨by repeat (first | (with_reducible first | exact HB.out | apply upS | refine below_set ?_ Xf.out) | exact HB.out)⟩⟩
   rw [if_neg c8] at H
   have X3 : decide (a0_0 < 0) = false := decide_eq_false c8
   clear c8
   replace H := Option.bind_eq_some_iff.mp H
   obtain ⟨Xk, X4, H⟩ := H
   replace H : (section_Valid.j0 k Xe Xk a0_0 Xb Xc) = some r := H
   have YA := Aside0.mk X4
   clear X4
   have H' := Aside0.mk H
   clear H
   have XC : w4.cell? ⟨Xd, 0, none⟩ = some (.int .i64 a0_0) := (blk_cell Xa.out 0).trans rfl
   have XD : w4.cell? ⟨Xd, 1, none⟩ = some (.slice Xg Xb.length Xh) := (blk_cell Xa.out 1).trans rfl
   have XE : w4.cell? ⟨Xd, 2, none⟩ = some (.slice Xi Xc.length Xj) := (blk_cell Xa.out 2).trans rfl
   have XF := blk_frozen Xa.out 0
   have XG := blk_frozen Xa.out 1
   have XH := blk_frozen Xa.out 2
   go_wp2_with (first | (go_at_call 48; (with_reducible refine (slices_ContainsFunc_g49.calls k _ _ Xc  Xk _ ?side1 ?side2 YA.out).mono ?_); (case side1 => repeat (first | exact (Kd.C_below Xs.out HB.out) | (with_reducible refine Kd.C_alloc ?_ _) | (with_reducible refine Kd.C_drewN ?_ _) | (with_reducible refine Kd.C_drew ?_))); (case side2 => exact Xt.out); rintro e w' ⟨rfl, ⟨nd, rfl⟩⟩))
   go_meet
   case rel => exact ⟨_, (Xk), (by first | rfl | (simp; done) | (simp [*]; done)), H', ⟨by first | omega | exact Nat.le_refl _⟩, ⟨by exact upB Xa.out⟩, ⟨by repeat (first | (with_reducible first | exact HB.out | apply upS | refine below_set ?_ Xf.out) | exact HB.out)⟩⟩
  clear Yt
  try clear c2
  try clear p2
  try clear c4
  try clear c6
  try clear Xo
  try clear c7
  try clear X0
  try clear X1
  try clear X2
  try clear c8
  try clear X3
  try clear XC
  try clear XD
  try clear XE
  try clear Xw
  try clear Xx
  try clear Xy
  try clear XK
  try clear XL
  try clear XM
  try clear XQ
  try clear XR
  try clear XS
  try clear XF
  try clear XG
  try clear XH
  try clear Xz
  try clear XA
  try clear XB
  try clear XN
  try clear XO
  try clear XP
  try clear XT
  try clear XU
  try clear XV
  obtain ⟨kq, Xn, rfl, HA, HJ2, Xa, HB⟩ := hcut
  cases kq with
  | zero => exact absurd HA.out (by simp [section_Valid.j0])
  | succ kj2 =>
   have H := HA.out
   clear HA
   simp only [section_Valid.j0] at H
   by_cases Ya : Xn = true
   case pos =>
    subst Ya
    have H1 : (some false) = some r := by rw [if_pos rfl] at H; exact H
    clear H
    have H := H1
    clear H1
    obtain rfl := Option.some.inj H
    go_wp2
    go_ret
    exact ⟨by first | rfl | (simp [errW_none, errW_some] <;> rfl) | (simp [*, errW_none, errW_some] <;> rfl), by repeat (first | (with_reducible first | exact HB.out | apply upS | refine below_set ?_ Xf.out) | exact HB.out)⟩
   replace Ya := Bool.eq_false_iff.mpr Ya
   subst Ya
   have H1 : (if Xe = 0 then (some true) else (if a0_0 > 2147483648 then (some false) else ((section_ends.f kj2 a0_0 Xb Xc).bind fun Xl => (if Xl.1 ≥ 0 then (some (decide (Xl.2 ≤ 2147483648))) else (some false))))) = some r := by rw [if_neg (show ¬ (false = true) by decide)] at H; exact H
   clear H
   have H := H1
   clear H1
   by_cases XW : Xe = 0
   case pos =>
    rw [if_pos XW] at H
    have X5 : (Xe == 0) = true := beq_iff_eq.mpr XW
    have X6 : (Xe != 0) = false := bne_eq_false_iff_eq.mpr XW
    clear XW
    obtain rfl := Option.some.inj H
    go_wp2
    go_ret
    exact ⟨by first | rfl | (simp [errW_none, errW_some] <;> rfl) | (simp [*, errW_none, errW_some] <;> rfl), by repeat (first | (with_reducible first | exact HB.out | apply upS | refine below_set ?_ Xf.out) | exact HB.out)⟩
   rw [if_neg XW] at H
   have X5 : (Xe == 0) = false := beq_eq_false_iff_ne.mpr XW
   have X6 : (Xe != 0) = true := bne_iff_ne.mpr XW
   by_cases XY : a0_0 > 2147483648
   case pos =>
    rw [if_pos XY] at H
    have X7 : decide (2147483648 < a0_0) = true := decide_eq_true XY
    clear XY
    obtain rfl := Option.some.inj H
    have Yb : wc.cell? ⟨Xd, 0, none⟩ = some (.int .i64 a0_0) := (blk_cell Xa.out 0).trans rfl
    have Yc : wc.cell? ⟨Xd, 1, none⟩ = some (.slice Xg Xb.length Xh) := (blk_cell Xa.out 1).trans rfl
    have Yd : wc.cell? ⟨Xd, 2, none⟩ = some (.slice Xi Xc.length Xj) := (blk_cell Xa.out 2).trans rfl
    have Ye := blk_frozen Xa.out 0
    have Yf := blk_frozen Xa.out 1
    have Yg := blk_frozen Xa.out 2
    go_wp2
    go_ret
    exact ⟨by first | rfl | (simp [errW_none, errW_some] <;> rfl) | (simp [*, errW_none, errW_some] <;> rfl), by repeat (first | (with_reducible first | exact HB.out | apply upS | refine below_set ?_ Xf.out) | exact HB.out)⟩
   rw [if_neg XY] at H
   have X7 : decide (2147483648 < a0_0) = false := decide_eq_false XY
   clear XY
   replace H := Option.bind_eq_some_iff.mp H
   obtain ⟨⟨Xp, XX⟩, X8, H⟩ := H
   replace H : (if Xp ≥ 0 then (some (decide (XX ≤ 2147483648))) else (some false)) = some r := H
   have Yy := Aside0.mk X8
   clear X8
   by_cases XZ : Xp ≥ 0
   case pos =>
    rw [if_pos XZ] at H
    have X9 : decide (0 ≤ Xp) = true := decide_eq_true XZ
    clear XZ
    obtain rfl := Option.some.inj H
    have Yh : wc.cell? ⟨Xd, 0, none⟩ = some (.int .i64 a0_0) := (blk_cell Xa.out 0).trans rfl
    have Yi : wc.cell? ⟨Xd, 1, none⟩ = some (.slice Xg Xb.length Xh) := (blk_cell Xa.out 1).trans rfl
    have Yj : wc.cell? ⟨Xd, 2, none⟩ = some (.slice Xi Xc.length Xj) := (blk_cell Xa.out 2).trans rfl
    have Yk := blk_frozen Xa.out 0
    have Yl := blk_frozen Xa.out 1
    have Ym := blk_frozen Xa.out 2
    go_wp2_with (first | ((with_reducible refine gate_callee (f := 50) rfl ?_); refine goesL_ (some 37) rfl rfl Try.func50 (by kernel_rfl) rfl #[.agg #[.int .i64 a0_0, .slice Xg Xb.length Xh, .slice Xi Xc.length Xj]] rfl (by (try simp only [List.map_toArray, List.map_cons, List.map_nil]); first | done | rfl | (simp only [List.length_drop, List.length_take]; rfl)) ?_; (with_reducible refine (section_ends.calls kj2 a0_0 _ _ Xb _ _ Xc Xp XX _ ?side1 ?side2 ?side3 ?side4 Yy.out).mono ?_); (case side1 => repeat (first | exact (Kd.C_below Xq.out HB.out) | (with_reducible refine Kd.C_alloc ?_ _) | (with_reducible refine Kd.C_drewN ?_ _) | (with_reducible refine Kd.C_drew ?_))); (case side2 => exact Xr.out); (case side3 => repeat (first | exact (Kd.C_below Xs.out HB.out) | (with_reducible refine Kd.C_alloc ?_ _) | (with_reducible refine Kd.C_drewN ?_ _) | (with_reducible refine Kd.C_drew ?_))); (case side4 => exact Xt.out); rintro e w20 ⟨rfl, hb⟩; refine ⟨_, rfl, ?_⟩; have XI := Aside0.mk (blk_below (g := Xd) (o := .cells #[.int .i64 a0_0, .slice Xg Xb.length Xh, .slice Xi Xc.length Xj] 31 (0, 0)) (by exact upB Xa.out) hb); have XJ := Aside0.mk (below_step (by repeat (first | (with_reducible first | exact HB.out | apply upS | refine below_set ?_ Xf.out) | exact HB.out)) hb); clear Xa; clear HB; have Xa := XI; have HB := XJ; clear XI XJ; (try clear hb); (try clear YB); (try clear hk); (try clear hi)))
    go_ret
    exact ⟨by first | rfl | (simp [errW_none, errW_some] <;> rfl) | (simp [*, errW_none, errW_some] <;> rfl), by repeat (first | (with_reducible first | exact HB.out | apply upS | refine below_set ?_ Xf.out) | exact HB.out)⟩
   rw [if_neg XZ] at H
   have X9 : decide (0 ≤ Xp) = false := decide_eq_false XZ
   clear XZ
   obtain rfl := Option.some.inj H
   have Yn : wc.cell? ⟨Xd, 0, none⟩ = some (.int .i64 a0_0) := (blk_cell Xa.out 0).trans rfl
   have Yo : wc.cell? ⟨Xd, 1, none⟩ = some (.slice Xg Xb.length Xh) := (blk_cell Xa.out 1).trans rfl
   have Yp : wc.cell? ⟨Xd, 2, none⟩ = some (.slice Xi Xc.length Xj) := (blk_cell Xa.out 2).trans rfl
   have Yq := blk_frozen Xa.out 0
   have Yr := blk_frozen Xa.out 1
   have Ys := blk_frozen Xa.out 2
   go_wp2_with (first | ((with_reducible refine gate_callee (f := 50) rfl ?_); refine goesL_ (some 37) rfl rfl Try.func50 (by kernel_rfl) rfl #[.agg #[.int .i64 a0_0, .slice Xg Xb.length Xh, .slice Xi Xc.length Xj]] rfl (by (try simp only [List.map_toArray, List.map_cons, List.map_nil]); first | done | rfl | (simp only [List.length_drop, List.length_take]; rfl)) ?_; (with_reducible refine (section_ends.calls kj2 a0_0 _ _ Xb _ _ Xc Xp XX _ ?side1 ?side2 ?side3 ?side4 Yy.out).mono ?_); (case side1 => repeat (first | exact (Kd.C_below Xq.out HB.out) | (with_reducible refine Kd.C_alloc ?_ _) | (with_reducible refine Kd.C_drewN ?_ _) | (with_reducible refine Kd.C_drew ?_))); (case side2 => exact Xr.out); (case side3 => repeat (first | exact (Kd.C_below Xs.out HB.out) | (with_reducible refine Kd.C_alloc ?_ _) | (with_reducible refine Kd.C_drewN ?_ _) | (with_reducible refine Kd.C_drew ?_))); (case side4 => exact Xt.out); rintro e w22 ⟨rfl, hb⟩; refine ⟨_, rfl, ?_⟩; have XI := Aside0.mk (blk_below (g := Xd) (o := .cells #[.int .i64 a0_0, .slice Xg Xb.length Xh, .slice Xi Xc.length Xj] 31 (0, 0)) (by exact upB Xa.out) hb); have XJ := Aside0.mk (below_step (by repeat (first | (with_reducible first | exact HB.out | apply upS | refine below_set ?_ Xf.out) | exact HB.out)) hb); clear Xa; clear HB; have Xa := XI; have HB := XJ; clear XI XJ; (try clear hb); (try clear YB); (try clear hk); (try clear hi)))
   go_ret
   exact ⟨by first | rfl | (simp [errW_none, errW_some] <;> rfl) | (simp [*, errW_none, errW_some] <;> rfl), by repeat (first | (with_reducible first | exact HB.out | apply upS | refine below_set ?_ Xf.out) | exact HB.out)⟩

end Go.Proofs.Yticjlkommabcjaa.PS
