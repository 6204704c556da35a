-- Printed by wip/qprint.py of this repository, over the kit's print, out of the translation. Not trusted: Lean checks it.
import Derived.Test.YticjlkommabcjaaPSx0
import Derived.Test.YticjlkommabcjaaPSx3
import Derived.Test.YticjlkommabcjaaPSx6
import Derived.Test.YticjlkommabcjaaPSx7
import Derived.Test.YticjlkommabcjaaPSx8
import Derived.Test.YticjlkommabcjaaUp
namespace Go.Proofs.Yticjlkommabcjaa.PS
open Go.RowKit Go.Proofs.YticjlkommabcjaaW.PrintWords Go.Proofs.YticjlkommabcjaaW.PrintLast Go.Proofs.YticjlkommabcjaaW.PrintMore
attribute [local go_sem] max2_int min2_int max_two min_two max_three min_three max_four min_four   -- for this text's walks alone
set_option linter.unusedVariables false
set_option linter.unusedSimpArgs false
set_option maxRecDepth 100000

/-! ### section_Whole: function 31 -/
def section_Whole.l0 : Nat → Int → List Int → Int → Int → Int → List Int → List Int → Option (Int × List Int × List Int × Int)
  | 0, _, _, _, _, _, _, _ => none
  | k + 1, x5, ZI, ZT, YE, Ye, Yf, X3 => if YE < ZT then (if 0 ≤ YE then (if YE < (ZI.length : Int) then (if X3.length < 17592186044416 then (section_Whole.l0 k (wrap64 (x5 * (rd ZI YE))) ZI ZT (wrap64 (YE + 1)) Ye Yf (X3 ++ [x5])) else (none)) else (none)) else (none)) else (some (Ye, Yf, X3, 0))
def section_Whole.f (k : Nat) (l0 : List Int) : Option (Int × List Int × List Int × Int) := (section_size.f k l0).bind fun X1 => (if X1 < 0 then (some (0, ([] : List Int), ([] : List Int), 2)) else ((slices_Clone.f l0).bind fun Xt => (section_Whole.l0 k 1 l0 (l0.length : Int) 0 0 Xt ([] : List Int))))
theorem section_Whole.mono_l : ∀ k, (∀ y0 y1 y2 y3 y4 y5 y6, LeO (section_Whole.l0 k y0 y1 y2 y3 y4 y5 y6) (section_Whole.l0 (k + 1) y0 y1 y2 y3 y4 y5 y6))
  | 0 => fun _ _ _ _ _ _ _ r h => by simp [section_Whole.l0] at h
  | k + 1 => by
    have ih0 := section_Whole.mono_l k
    · intro y0 y1 y2 y3 y4 y5 y6
      unfold section_Whole.l0
      repeat' first
      | (with_reducible exact ih0 _ _ _ _ _ _ _)
      | (with_reducible exact section_size.mono _ _)
      | (with_reducible exact LeO.refl _)
      | (with_reducible exact LeO.none _)
      | (with_reducible refine LeO.ite ?_ ?_)
      | (with_reducible refine LeO.bind ?_ (fun _ => ?_))
      | exact ih0 _ _ _ _ _ _ _
      | exact section_size.mono _ _
      | exact LeO.none _
      | refine LeO.ite ?_ ?_
      | refine LeO.bind ?_ (fun _ => ?_)
theorem section_Whole.mono : ∀ a0 k, LeO (section_Whole.f k a0) (section_Whole.f (k + 1) a0) := by
  intro a0 k
  have ih0 := section_Whole.mono_l k
  unfold section_Whole.f
  repeat' first
      | (with_reducible exact ih0 _ _ _ _ _ _ _)
      | (with_reducible exact section_size.mono _ _)
      | (with_reducible exact LeO.refl _)
      | (with_reducible exact LeO.none _)
      | (with_reducible refine LeO.ite ?_ ?_)
      | (with_reducible refine LeO.bind ?_ (fun _ => ?_))
      | exact ih0 _ _ _ _ _ _ _
      | exact section_size.mono _ _
      | exact LeO.none _
      | refine LeO.ite ?_ ?_
      | refine LeO.bind ?_ (fun _ => ?_)
set_option maxHeartbeats 8000000 in
set_option maxRecDepth 100000 in
theorem section_Whole.calls (k : Nat) (A0 : Option Addr) (c0 : Nat) (l0 : List Int) (r1 : Int) (r2 : List Int) (r3 : List Int) (r4 : Int) (w : World) (hr0 : Kd.C (Kd.int .i64) w A0 l0.length l0) (hc0 : l0.length ≤ c0) (h : section_Whole.f k l0 = some (r1, r2, r3, r4)) :
    Calls Try.prog 31 #[.slice A0 l0.length c0] w fun e w' => ∃ v1_ v2_ : Value, e = .returned (.tuple #[.agg #[.int .i64 r1, v1_, v2_], .int .i64 r4]) ∧ Kd.R (Kd.int .i64) 3 w' w.heap.size (fun k_ => some k_ ≠ (v2_ : Value).ownBlock) v1_ r2 ∧ Kd.R (Kd.int .i64) 3 w' w.heap.size (fun k_ => some k_ ≠ (v1_ : Value).ownBlock) v2_ r3 ∧ Below w.heap.size w w' := by
  have hu31 := Try.underlying31
  have YL := Aside0.mk hr0
  have ZJ := Aside0.mk hc0
  clear hr0 hc0
  have HB := Aside0.mk (Below.refl w.heap.size w)
  have H : ((section_size.f k l0).bind fun X1 => (if X1 < 0 then (some (0, ([] : List Int), ([] : List Int), 2)) else ((slices_Clone.f l0).bind fun Xt => (section_Whole.l0 k 1 l0 (l0.length : Int) 0 0 Xt ([] : List Int))))) = some (r1, r2, r3, r4) := h
  clear h
  replace H := Option.bind_eq_some_iff.mp H
  obtain ⟨X1, YF, H⟩ := H
  replace H : (if X1 < 0 then (some (0, ([] : List Int), ([] : List Int), 2)) else ((slices_Clone.f l0).bind fun Xt => (section_Whole.l0 k 1 l0 (l0.length : Int) 0 0 Xt ([] : List Int)))) = some (r1, r2, r3, r4) := H
  have A2 := Aside0.mk YF
  clear YF
  by_cases c3 : X1 < 0
  case pos =>
   rw [if_pos c3] at H
   have Yl : decide (X1 < 0) = true := decide_eq_true c3
   clear c3
   simp only [Option.some.injEq, Prod.mk.injEq] at H
   obtain ⟨rfl, rfl, rfl, rfl⟩ := H
   go_enter Try.func31, Try.ntmps31
   go_wp2_with (first | ((with_reducible refine gate_dst (N := 2) rfl ?_); refine box_event ?hg (N := 2) ?hd (cs := #[.int .i64 0, .slice none 0 0, .slice none 0 0]) (t := 31) ?hr ?_; (case hd => rfl); (case hg => rfl); (case hr => first | (go_simp; done) | (go_simp; rfl)); intro Xh hg w4 hbox hb; have XA := Aside0.mk (below_step (by exact upL HB.out) hb); have XB := Aside0.mk (hbox); have XH := Aside0.mk ((by rw [hg]; exact (below_size (by exact upL HB.out)) : w.heap.size ≤ Xh)); have XJ := Aside0.mk ((by rw [hg]; exact (below_size (by exact upL HB.out)) : w.heap.size ≤ Xh)); clear HB; have HB := XA; have Xb := XB; have YG := XH; have XF := XJ; clear XA XB XH XJ; clear hb hbox hg) | ((with_reducible refine gate_callee (f := 46) rfl ?_); refine goesL_ (some 9) rfl rfl Try.func46 (by kernel_rfl) rfl #[.slice A0 l0.length c0] rfl (by (try simp only [List.map_toArray, List.map_cons, List.map_nil]); first | done | rfl | (simp only [List.length_drop, List.length_take]; rfl)) ?_; (with_reducible refine (section_size.calls k _ _ l0 X1 _ ?side1 ?side2 A2.out).mono ?_); (case side1 => repeat (first | exact (Kd.C_below YL.out HB.out) | (with_reducible refine Kd.C_alloc ?_ _) | (with_reducible refine Kd.C_drewN ?_ _) | (with_reducible refine Kd.C_drew ?_))); (case side2 => exact ZJ.out); rintro e w' ⟨rfl, ⟨nd, rfl⟩⟩; refine ⟨_, rfl, ?_⟩; (try (rw [drewN_self w4]; generalize hq_ : World.drewN w4 _ = w4; have XA : Aside0 (w4.heap[Xh]? = some (.cells #[.int .i64 0, .slice none 0 0, .slice none 0 0] 31 (0, 0))) := ⟨by rw [← hq_]; exact (by exact upB Xb.out)⟩; have XB : Aside0 (Below w.heap.size w w4) := ⟨by rw [← hq_]; exact (by repeat (first | (with_reducible first | exact HB.out | apply upS | refine below_set ?_ XF.out) | exact HB.out))⟩; clear Xb HB hq_; have Xb := XA; have HB := XB; clear XA XB)); have Yt : w4.cell? ⟨Xh, 0, none⟩ = some (.int .i64 0) := (blk_cell Xb.out 0).trans rfl; have Yu : w4.cell? ⟨Xh, 1, none⟩ = some (.slice none 0 0) := (blk_cell Xb.out 1).trans rfl; have Yv : w4.cell? ⟨Xh, 2, none⟩ = some (.slice none 0 0) := (blk_cell Xb.out 2).trans rfl; have Yw := blk_frozen Xb.out 0; have Yx := blk_frozen Xb.out 1; have Yy := blk_frozen Xb.out 2))
   refine bodyPost_ret (results_ct rfl _ _ Xh 31 #[.int .i64 0, .slice none 0 0, .slice none 0 0] (0, 0) _ rfl (by (with_reducible repeat apply upF); refine blk_put (cs := #[.int .i64 0, .slice none 0 0, .slice none 0 0]) ?_ 2 _ rfl; (with_reducible repeat apply upF); refine blk_put (cs := #[.int .i64 0, .slice none 0 0, .slice none 0 0]) ?_ 1 _ rfl; (with_reducible repeat apply upF); refine blk_put (cs := #[.int .i64 0, .slice none 0 0, .slice none 0 0]) ?_ 0 _ rfl; exact upB Xb.out) Try.underlying31 rfl (by kernel_rfl)) rfl ?_
   exact ⟨_, _, by first | rfl | (simp [errW_none, errW_some] <;> rfl) | (simp [*, errW_none, errW_some] <;> rfl), by first | exact Kd.R_nil _ _ _ _ _ | exact Kd.N_nil _ _ _ _ _ | exact Kd.V_nil _ _ _ _ _ | exact Kd.Q_nil _ _ _ _ _ | exact Kd.S_nil _ _ _ _ _, by first | exact Kd.R_nil _ _ _ _ _ | exact Kd.N_nil _ _ _ _ _ | exact Kd.V_nil _ _ _ _ _ | exact Kd.Q_nil _ _ _ _ _ | exact Kd.S_nil _ _ _ _ _, by repeat (first | (with_reducible first | exact HB.out | apply upS | refine below_set ?_ XF.out) | exact HB.out)⟩
  rw [if_neg c3] at H
  have Yl : decide (X1 < 0) = false := decide_eq_false c3
  clear c3
  replace H := Option.bind_eq_some_iff.mp H
  obtain ⟨Xt, ZU, H⟩ := H
  replace H : (section_Whole.l0 k 1 l0 (l0.length : Int) 0 0 Xt ([] : List Int)) = some (r1, r2, r3, r4) := H
  have A6 := Aside0.mk ZU
  clear ZU
  have H' := Aside0.mk H
  clear H
  go_enter Try.func31, Try.ntmps31
  go_wp2_with (first | ((with_reducible refine gate_dst (N := 2) rfl ?_); refine box_event ?hg (N := 2) ?hd (cs := #[.int .i64 0, .slice none 0 0, .slice none 0 0]) (t := 31) ?hr ?_; (case hd => rfl); (case hg => rfl); (case hr => first | (go_simp; done) | (go_simp; rfl)); intro Xh hg w7 hbox hb; have XA := Aside0.mk (below_step (by exact upL HB.out) hb); have XB := Aside0.mk (hbox); have XH := Aside0.mk ((by rw [hg]; exact (below_size (by exact upL HB.out)) : w.heap.size ≤ Xh)); have XJ := Aside0.mk ((by rw [hg]; exact (below_size (by exact upL HB.out)) : w.heap.size ≤ Xh)); clear HB; have HB := XA; have Xb := XB; have YG := XH; have XF := XJ; clear XA XB XH XJ; clear hb hbox hg) | ((with_reducible refine gate_callee (f := 46) rfl ?_); refine goesL_ (some 9) rfl rfl Try.func46 (by kernel_rfl) rfl #[.slice A0 l0.length c0] rfl (by (try simp only [List.map_toArray, List.map_cons, List.map_nil]); first | done | rfl | (simp only [List.length_drop, List.length_take]; rfl)) ?_; (with_reducible refine (section_size.calls k _ _ l0 X1 _ ?side1 ?side2 A2.out).mono ?_); (case side1 => repeat (first | exact (Kd.C_below YL.out HB.out) | (with_reducible refine Kd.C_alloc ?_ _) | (with_reducible refine Kd.C_drewN ?_ _) | (with_reducible refine Kd.C_drew ?_))); (case side2 => exact ZJ.out); rintro e w' ⟨rfl, ⟨nd, rfl⟩⟩; refine ⟨_, rfl, ?_⟩; (try (rw [drewN_self w7]; generalize hq_ : World.drewN w7 _ = w7; have XA : Aside0 (w7.heap[Xh]? = some (.cells #[.int .i64 0, .slice none 0 0, .slice none 0 0] 31 (0, 0))) := ⟨by rw [← hq_]; exact (by exact upB Xb.out)⟩; have XB : Aside0 (Below w.heap.size w w7) := ⟨by rw [← hq_]; exact (by repeat (first | (with_reducible first | exact HB.out | apply upS | refine below_set ?_ XF.out) | exact HB.out))⟩; clear Xb HB hq_; have Xb := XA; have HB := XB; clear XA XB))) | ((with_reducible refine gate_callee (f := 53) rfl ?_); refine goesL_ (some 13) rfl rfl Try.func53 (by kernel_rfl) rfl #[.slice A0 l0.length c0] rfl (by (try simp only [List.map_toArray, List.map_cons, List.map_nil]); first | done | rfl | (simp only [List.length_drop, List.length_take]; rfl)) ?_; (with_reducible refine (slices_Clone.calls _ _ l0 Xt _ ?side1 ?side2 A6.out).mono ?_); (case side1 => repeat (first | exact (Kd.C_below YL.out HB.out) | (with_reducible refine Kd.C_alloc ?_ _) | (with_reducible refine Kd.C_drewN ?_ _) | (with_reducible refine Kd.C_drew ?_))); (case side2 => exact ZJ.out); rintro e w8 ⟨v167, rfl, ho0, hb⟩; refine ⟨_, rfl, ?_⟩; have XA := Aside0.mk (Kd.R_lower ho0 (below_size (by repeat (first | (with_reducible first | exact HB.out | apply upS | refine below_set ?_ XF.out) | exact HB.out)))); have XB := Aside0.mk (blk_below (g := Xh) (o := .cells #[.int .i64 0, .slice none 0 0, .slice none 0 0] 31 (0, 0)) (by exact upB Xb.out) hb); have XH := Aside0.mk (below_step (by repeat (first | (with_reducible first | exact HB.out | apply upS | refine below_set ?_ XF.out) | exact HB.out)) hb); clear Xb; clear HB; have X6 := XA; have Xb := XB; have HB := XH; clear XA XB XH; (try clear hb); (try clear ZV); (try clear hk); (try clear hi); (try clear ho0); obtain ⟨Yb, Yc, eo9⟩ := Kd.R_slice X6.out; subst eo9) | ((with_reducible refine gate_dst (N := 4) rfl ?_); refine box_event ?hg (N := 4) ?hd (cs := #[.int .i64 0, .slice none 0 0, .slice none 0 0]) (t := 31) ?hr ?_; (case hd => rfl); (case hg => rfl); (case hr => first | (go_simp; done) | (go_simp; rfl)); intro Xl hg w10 hbox hb; have XA := Aside0.mk (Kd.R_below (by (with_reducible repeat apply upG); exact X6.out) hb); have XB := Aside0.mk (blk_below (g := Xh) (o := .cells #[.int .i64 0, .slice none 0 0, .slice none 0 0] 31 (0, 0)) (by exact upB Xb.out) hb); have XH := Aside0.mk (below_step (by repeat (first | (with_reducible first | exact HB.out | apply upS | refine below_set ?_ XF.out) | exact HB.out)) hb); have XJ := Aside0.mk (hbox); have XW := Aside0.mk ((by rw [hg]; exact (below_size (by repeat (first | (with_reducible first | exact HB.out | apply upS | refine below_set ?_ XF.out) | exact HB.out))) : w.heap.size ≤ Xl)); have XX := Aside0.mk ((by rw [hg]; exact (below_size (by repeat (first | (with_reducible first | exact HB.out | apply upS | refine below_set ?_ XF.out) | exact HB.out))) : w.heap.size ≤ Xl)); have X2 := Aside0.mk ((by rw [hg]; exact Nat.ne_of_lt (blk_lt (g := Xh) (o := .cells #[.int .i64 0, .slice none 0 0, .slice none 0 0] 31 (0, 0)) (by exact upB Xb.out)) : Xh ≠ Xl)); have X7 := Aside0.mk ((by rw [hg]; exact Nat.ne_of_gt (blk_lt (g := Xh) (o := .cells #[.int .i64 0, .slice none 0 0, .slice none 0 0] 31 (0, 0)) (by exact upB Xb.out)) : Xl ≠ Xh)); clear X6; clear Xb; clear HB; have X6 := XA; have Xb := XB; have HB := XH; have Xe := XJ; have ZW := XW; have X8 := XX; have Xs := X2; have XT := X7; clear XA XB XH XJ XW XX X2 X7; clear hb hbox hg; have ZX := XT.out; have ZY := Xs.out; have Ym : w10.cell? ⟨Xl, 0, none⟩ = some (.int .i64 0) := (blk_cell Xe.out 0).trans rfl; have Yn : w10.cell? ⟨Xl, 1, none⟩ = some (.slice none 0 0) := (blk_cell Xe.out 1).trans rfl; have Yo : w10.cell? ⟨Xl, 2, none⟩ = some (.slice none 0 0) := (blk_cell Xe.out 2).trans rfl; have Yp := blk_frozen Xe.out 0; have Yq := blk_frozen Xe.out 1; have Yr := blk_frozen Xe.out 2))
  go_loopg [5, 17] k (fun kq v5 v17 w' => ∃ (X9 : Int) (Xu : Int) (Xm : List Int) (u170002 : Value), v5 = .int .i64 X9 ∧ v17 = .int .i64 Xu ∧ Aside0 (section_Whole.l0 kq X9 l0 (l0.length : Int) Xu 0 Xt Xm = some (r1, r2, r3, r4)) ∧ Aside0 (kq ≤ k) ∧ Aside0 (Kd.R (Kd.int .i64) 3 w' w.heap.size (fun k_ => some k_ ≠ (u170002 : Value).ownBlock) (.slice Yb Xt.length Yc) Xt) ∧ Aside0 (Kd.R (Kd.int .i64) 3 w' w.heap.size (fun k_ => some k_ ≠ ((.slice Yb Xt.length Yc) : Value).ownBlock) u170002 Xm) ∧ Aside0 (w'.heap[Xh]? = some (.cells #[.int .i64 0, (.slice none 0 0), (.slice none 0 0)] 31 (0, 0))) ∧ Aside0 (w'.heap[Xl]? = some (.cells #[.int .i64 0, (.slice Yb Xt.length Yc), u170002] 31 (0, 0))) ∧ Aside0 (Below w.heap.size w w'))
  case atStart => exact ⟨(1), (0), (([] : List Int)), (.slice none 0 0), (by first | rfl | (simp; done) | (simp [*]; done)), (by first | rfl | (simp; done) | (simp [*]; done)), H', ⟨Nat.le_refl _⟩, ⟨by (with_reducible repeat apply upG); exact Kd.R_mono (Kd.R_far (p := ⟨Xl, 2, none⟩) (Kd.R_far (p := ⟨Xl, 1, none⟩) (Kd.R_far (p := ⟨Xl, 0, none⟩) (Kd.R_types X6.out Xe.out (by decide)) (fun _ hk => hk.2) (.int .i64 0)) (fun _ hk => hk.2) (.slice Yb Xt.length Yc)) (fun _ hk => hk.2) (.slice none 0 0)) (fun _ hk => (by simp [Value.ownBlock]))⟩, ⟨by first | exact Kd.R_nil _ _ _ _ _ | exact Kd.N_nil _ _ _ _ _ | exact Kd.V_nil _ _ _ _ _ | exact Kd.Q_nil _ _ _ _ _ | exact Kd.S_nil _ _ _ _ _⟩, ⟨by (with_reducible repeat apply upF); refine blk_far ?_ Xs.out _; (with_reducible repeat apply upF); refine blk_far ?_ Xs.out _; (with_reducible repeat apply upF); refine blk_far ?_ Xs.out _; exact upB Xb.out⟩, ⟨by (with_reducible repeat apply upF); refine blk_put (cs := #[.int .i64 0, .slice Yb Xt.length Yc, .slice none 0 0]) ?_ 2 _ rfl; (with_reducible repeat apply upF); refine blk_put (cs := #[.int .i64 0, .slice none 0 0, .slice none 0 0]) ?_ 1 _ rfl; (with_reducible repeat apply upF); refine blk_put (cs := #[.int .i64 0, .slice none 0 0, .slice none 0 0]) ?_ 0 _ rfl; exact upB Xe.out⟩, ⟨by repeat (first | (with_reducible first | exact HB.out | apply upS | refine below_set ?_ XF.out | refine below_set ?_ X8.out) | exact HB.out)⟩⟩
  clear H'
  try clear c1
  try clear p2
  try clear c3
  try clear Yl
  try clear c4
  try clear c5
  try clear Vh
  try clear Ym
  try clear Yn
  try clear Yo
  try clear Yt
  try clear Yu
  try clear Yv
  try clear Yp
  try clear Yq
  try clear Yr
  try clear Yw
  try clear Yx
  try clear Yy
  obtain ⟨X9, Xu, Xm, u170002, rfl, rfl, HA, HK1, Xy, Xz, Xb, Xe, HB⟩ := hrel
  cases gk with
  | zero => exact absurd HA.out (by simp [section_Whole.l0])
  | succ k1 =>
   have H := HA.out
   clear HA
   simp only [section_Whole.l0] at H
   by_cases YD : Xu < (l0.length : Int)
   case neg =>
    rw [if_neg YD] at H
    have YH : decide (Xu < (l0.length : Int)) = false := decide_eq_false YD
    clear YD
    simp only [Option.some.injEq, Prod.mk.injEq] at H
    obtain ⟨rfl, rfl, rfl, rfl⟩ := H
    have ZZ := XT.out
    have Z0 := Xs.out
    have YM : wr.cell? ⟨Xl, 0, none⟩ = some (.int .i64 0) := (blk_cell Xe.out 0).trans rfl
    have YN : wr.cell? ⟨Xl, 1, none⟩ = some (.slice Yb Xt.length Yc) := (blk_cell Xe.out 1).trans rfl
    have YO : wr.cell? ⟨Xl, 2, none⟩ = some (u170002) := (blk_cell Xe.out 2).trans rfl
    have YP := blk_frozen Xe.out 0
    have YQ := blk_frozen Xe.out 1
    have YR := blk_frozen Xe.out 2
    have YS : wr.cell? ⟨Xh, 0, none⟩ = some (.int .i64 0) := (blk_cell Xb.out 0).trans rfl
    have YT : wr.cell? ⟨Xh, 1, none⟩ = some (.slice none 0 0) := (blk_cell Xb.out 1).trans rfl
    have YU : wr.cell? ⟨Xh, 2, none⟩ = some (.slice none 0 0) := (blk_cell Xb.out 2).trans rfl
    have YV := blk_frozen Xb.out 0
    have YW := blk_frozen Xb.out 1
    have YX := blk_frozen Xb.out 2
    obtain ⟨Yz, YA, eo25⟩ := Kd.R_slice Xz.out
    subst eo25
    go_wp2
    refine bodyPost_ret (results_ct rfl _ _ Xh 31 #[.int .i64 0, .slice Yb Xt.length Yc, .slice Yz Xm.length YA] (0, 0) _ rfl (by (with_reducible repeat apply upF); refine blk_put (cs := #[.int .i64 0, .slice Yb Xt.length Yc, .slice none 0 0]) ?_ 2 _ rfl; (with_reducible repeat apply upF); refine blk_put (cs := #[.int .i64 0, .slice none 0 0, .slice none 0 0]) ?_ 1 _ rfl; (with_reducible repeat apply upF); refine blk_put (cs := #[.int .i64 0, .slice none 0 0, .slice none 0 0]) ?_ 0 _ rfl; exact upB Xb.out) Try.underlying31 rfl (by kernel_rfl)) rfl ?_
    exact ⟨_, _, by first | rfl | (simp [errW_none, errW_some] <;> rfl) | (simp [*, errW_none, errW_some] <;> rfl), by (with_reducible repeat apply upG); exact Kd.R_mono (Kd.R_far (p := ⟨Xh, 2, none⟩) (Kd.R_far (p := ⟨Xh, 1, none⟩) (Kd.R_far (p := ⟨Xh, 0, none⟩) (Kd.R_types Xy.out Xb.out (by decide)) (fun _ hk => hk.2) (.int .i64 0)) (fun _ hk => hk.2) (.slice Yb Xt.length Yc)) (fun _ hk => hk.2) (.slice Yz Xm.length YA)) (fun _ hk => hk.1), by (with_reducible repeat apply upG); exact Kd.R_mono (Kd.R_far (p := ⟨Xh, 2, none⟩) (Kd.R_far (p := ⟨Xh, 1, none⟩) (Kd.R_far (p := ⟨Xh, 0, none⟩) (Kd.R_types Xz.out Xb.out (by decide)) (fun _ hk => hk.2) (.int .i64 0)) (fun _ hk => hk.2) (.slice Yb Xt.length Yc)) (fun _ hk => hk.2) (.slice Yz Xm.length YA)) (fun _ hk => hk.1), by repeat (first | (with_reducible first | exact HB.out | apply upS | refine below_set ?_ XF.out | refine below_set ?_ X8.out) | exact HB.out)⟩
   rw [if_pos YD] at H
   have YH : decide (Xu < (l0.length : Int)) = true := decide_eq_true YD
   clear YD
   by_cases YY : 0 ≤ Xu
   case neg =>
    rw [if_neg YY] at H
    exact absurd H (by simp)
   rw [if_pos YY] at H
   have Z1 : decide (0 ≤ Xu) = true := decide_eq_true YY
   clear YY
   by_cases YZ : Xu < (l0.length : Int)
   case neg =>
    rw [if_neg YZ] at H
    exact absurd H (by simp)
   rw [if_pos YZ] at H
   have Z2 : decide (Xu < (l0.length : Int)) = true := decide_eq_true YZ
   clear YZ
   by_cases Y0 : Xm.length < 17592186044416
   case neg =>
    rw [if_neg Y0] at H
    exact absurd H (by simp)
   rw [if_pos Y0] at H
   have LMc16 := Aside0.mk Y0
   clear Y0
   obtain ⟨y171, hy171⟩ : ∃ y_ : List Int, y_ = (Xm ++ [X9]) := ⟨_, rfl⟩
   replace H : (section_Whole.l0 k1 (wrap64 (X9 * (rd l0 Xu))) l0 (l0.length : Int) (wrap64 (Xu + 1)) 0 Xt y171) = some (r1, r2, r3, r4) := by first | (rw [hy171]; with_reducible exact H) | (have XY := (Option.bind_some _ _).symm.trans H; rw [hy171]; with_reducible exact XY) | (have XY := (Option.bind_some _ _).symm.trans H; with_reducible exact XY) | with_reducible exact H | (rw [hy171]; exact H) | exact H
   have Ny171 := Aside0.mk hy171
   clear hy171
   have H' := Aside0.mk H
   clear H
   have p170 : 0 ≤ (Xu : Int) := of_decide_eq_true (by first | (with_reducible assumption) | assumption)
   have q170 : Xu < (l0.length : Int) := of_decide_eq_true (by first | (with_reducible assumption) | assumption)
   obtain ⟨ad170, e170, X4⟩ := Kd.at_int YL.out Xu p170 q170
   cases e170
   replace X4 := (HB.out.cell (World.block_lt_of_cell? w _ X4)).trans X4
   replace p170 := eq_true p170
   replace q170 := eq_true q170
   have Z3 := XT.out
   have Z4 := Xs.out
   have Y1 : wr.cell? ⟨Xl, 0, none⟩ = some (.int .i64 0) := (blk_cell Xe.out 0).trans rfl
   have Y2 : wr.cell? ⟨Xl, 1, none⟩ = some (.slice Yb Xt.length Yc) := (blk_cell Xe.out 1).trans rfl
   have Y3 : wr.cell? ⟨Xl, 2, none⟩ = some (u170002) := (blk_cell Xe.out 2).trans rfl
   have Y4 := blk_frozen Xe.out 0
   have Y5 := blk_frozen Xe.out 1
   have Y6 := blk_frozen Xe.out 2
   go_wp2_with (first | ((with_reducible refine gate_builtin (b := .append) (xs := #[.tmp 22, .tmp 24]) rfl ?_); at_builtin; refine Kd.R_append (Kd.int .i64) (w0 := w) w.heap.size rfl (.tmp 22) (.tmp 24) 29 3 (.int .i64 0) 8 rfl Try.underlying29 info3 rfl (by decide) (by omega) u170002 Xm X9 [.int .i64 X9] (fun k_ => some k_ ≠ (.slice Yb Xt.length Yc : Value).ownBlock) (fun _ => False) rfl rfl ?aP (fun _ hk => hk.elim) ?aF ?aO ?aB ?aS ?aL ?_; (case aP => exact rfl); (case aB => exact (by repeat (first | (with_reducible first | exact HB.out | apply upS | refine below_set ?_ XF.out | refine below_set ?_ X8.out) | exact HB.out))); (case aF => exact (fun k_ hk => Kd.fresh' (Kd.R_lt (by exact upR Xy.out)) k_ hk)); (case aO => exact (by exact upR Xz.out)); (case aS => exact (below_size (by repeat (first | (with_reducible first | exact HB.out | apply upS | refine below_set ?_ XF.out | refine below_set ?_ X8.out) | exact HB.out)))); (case aL => have := LMc16.out; omega); intro v172 w19 ho hb hg hat; rw [← Ny171.out] at ho; have XA := Aside0.mk (Kd.R_after (ok := (fun _ => True)) (by (with_reducible repeat apply upG); exact Kd.R_mono Xy.out (fun _ hk => ⟨trivial, hk⟩)) hg hat); have XB := Aside0.mk (blk_grown (g := Xh) (o := .cells #[.int .i64 0, .slice none 0 0, .slice none 0 0] 31 (0, 0)) (by exact upB Xb.out) hg (Kd.R_ne Xz.out Xb.out (by decide))); have XH := Aside0.mk (blk_grown (g := Xl) (o := .cells #[.int .i64 0, .slice Yb Xt.length Yc, u170002] 31 (0, 0)) (by exact upB Xe.out) hg (Kd.R_ne Xz.out Xe.out (by decide))); have XJ := Aside0.mk (hb); have XW := Aside0.mk (ho); clear Xy; clear Xb; clear Xe; clear HB; clear Xz; have Xy := XA; have Xb := XB; have Xe := XH; have HB := XJ; have Ys := XW; clear XA XB XH XJ XW; clear ho hb hg hat; obtain ⟨YB, YC, eo20⟩ := Kd.R_slice Ys.out; subst eo20; have Y7 : w19.cell? ⟨Xl, 0, none⟩ = some (.int .i64 0) := (blk_cell Xe.out 0).trans rfl; have Y8 : w19.cell? ⟨Xl, 1, none⟩ = some (.slice Yb Xt.length Yc) := (blk_cell Xe.out 1).trans rfl; have Y9 : w19.cell? ⟨Xl, 2, none⟩ = some (u170002) := (blk_cell Xe.out 2).trans rfl; have Za := blk_frozen Xe.out 0; have Zb := blk_frozen Xe.out 1; have Zc := blk_frozen Xe.out 2))
   go_roundg k1
   case measure => have := HK1.out; omega
   case rel => exact ⟨(wrap64 (X9 * (rd l0 Xu))), (wrap64 (Xu + 1)), (y171), (.slice YB y171.length YC), (by first | rfl | (simp; done) | (simp [*]; done)), (by first | rfl | (simp; done) | (simp [*]; done)), H', ⟨by have := HK1.out; omega⟩, ⟨by (with_reducible repeat apply upG); exact Kd.R_mono (Kd.R_far (p := ⟨Xl, 2, none⟩) (Kd.R_types Xy.out Xe.out (by decide)) (fun _ hk => hk.2) (.slice YB y171.length YC)) (fun _ hk => hk.1.2)⟩, ⟨by (with_reducible repeat apply upG); exact Kd.R_mono (Kd.R_far (p := ⟨Xl, 2, none⟩) (Kd.R_types Ys.out Xe.out (by decide)) (fun _ hk => hk.2) (.slice YB y171.length YC)) (fun _ hk => hk.1)⟩, ⟨by (with_reducible repeat apply upF); refine blk_far ?_ Xs.out _; exact upB Xb.out⟩, ⟨by (with_reducible repeat apply upF); refine blk_put (cs := #[.int .i64 0, .slice Yb Xt.length Yc, u170002]) ?_ 2 _ rfl; exact upB Xe.out⟩, ⟨by repeat (first | (with_reducible first | exact HB.out | apply upS | refine below_set ?_ XF.out | refine below_set ?_ X8.out) | exact HB.out)⟩⟩

/-! ### quadratlaw06_Awake: function 14 -/
def quadratlaw06_Awake.f (k : Nat)  : Option (Bool) := (section_Whole.f k (([4, 3] : List Int))).bind fun Xv => ((section_Cut.f k Xv.1 Xv.2.1 Xv.2.2.1 (([(⟨false, 0, (⟨1, 3, 2⟩ : S23)⟩ : S58), (⟨true, 2, (⟨0, 0, 0⟩ : S23)⟩ : S58)] : List (S58)))).bind fun Xk => (if Xv.2.2.2 = 0 then (if Xk.2.2.2 = 0 then ((quadratref06_SameInts.f k Xv.2.2.1 (([1, 4] : List Int))).bind fun XO => (if XO = true then (if Xk.1 = 9 then ((quadratref06_SameInts.f k Xk.2.1 (([2] : List Int))).bind fun XD => (if XD = true then ((quadratref06_SameInts.f k Xk.2.2.1 (([2] : List Int))).bind fun Xn => (some Xn)) else (some false))) else (some false)) else (some false))) else (some false)) else (some false)))
theorem quadratlaw06_Awake.mono : ∀ k, LeO (quadratlaw06_Awake.f k ) (quadratlaw06_Awake.f (k + 1) ) := by
  intro  k
  unfold quadratlaw06_Awake.f
  repeat' first
      | (with_reducible exact quadratref06_SameInts.mono _ _ _)
      | (with_reducible exact section_Cut.mono _ _ _ _ _)
      | (with_reducible exact section_Whole.mono _ _)
      | (with_reducible exact LeO.refl _)
      | (with_reducible exact LeO.none _)
      | (with_reducible refine LeO.ite ?_ ?_)
      | (with_reducible refine LeO.bind ?_ (fun _ => ?_))
      | exact quadratref06_SameInts.mono _ _ _
      | exact section_Cut.mono _ _ _ _ _
      | exact section_Whole.mono _ _
      | exact LeO.none _
      | refine LeO.ite ?_ ?_
      | refine LeO.bind ?_ (fun _ => ?_)
set_option maxHeartbeats 8000000 in
set_option maxRecDepth 100000 in
theorem quadratlaw06_Awake.calls (k : Nat)  (r : Bool) (w : World) (h : quadratlaw06_Awake.f k  = some r) :
    Calls Try.prog 14 #[] w fun e w' => e = .returned (.bool r) ∧ Below w.heap.size w w' := by
  have hu31 := Try.underlying31
  have hu23 := Try.underlying23
  have hu58 := Try.underlying58
  have YI : Aside0 (r = true) := by
    have h1 : quadratlaw06_Awake.f (k + 100) = some r := at_rounds (fun k => quadratlaw06_Awake.mono k) (Nat.le_add_right k 100) h
    have h2 : quadratlaw06_Awake.f (k + 100) = some true := at_rounds (fun k => quadratlaw06_Awake.mono k) (Nat.le_add_left 100 k) (show quadratlaw06_Awake.f 100 = some true by decide +kernel)
    exact ⟨Option.some.inj (h1.symm.trans h2)⟩
  have HB := Aside0.mk (Below.refl w.heap.size w)
  have H : ((section_Whole.f k (([4, 3] : List Int))).bind fun Xv => ((section_Cut.f k Xv.1 Xv.2.1 Xv.2.2.1 (([(⟨false, 0, (⟨1, 3, 2⟩ : S23)⟩ : S58), (⟨true, 2, (⟨0, 0, 0⟩ : S23)⟩ : S58)] : List (S58)))).bind fun Xk => (if Xv.2.2.2 = 0 then (if Xk.2.2.2 = 0 then ((quadratref06_SameInts.f k Xv.2.2.1 (([1, 4] : List Int))).bind fun XO => (if XO = true then (if Xk.1 = 9 then ((quadratref06_SameInts.f k Xk.2.1 (([2] : List Int))).bind fun XD => (if XD = true then ((quadratref06_SameInts.f k Xk.2.2.1 (([2] : List Int))).bind fun Xn => (some Xn)) else (some false))) else (some false)) else (some false))) else (some false)) else (some false)))) = some r := h
  clear h
  obtain ⟨y174, hy174⟩ : ∃ y_ : List Int, y_ = (([4, 3] : List Int)) := ⟨_, rfl⟩
  replace H : ((section_Whole.f k y174).bind fun Xv => ((section_Cut.f k Xv.1 Xv.2.1 Xv.2.2.1 (([(⟨false, 0, (⟨1, 3, 2⟩ : S23)⟩ : S58), (⟨true, 2, (⟨0, 0, 0⟩ : S23)⟩ : S58)] : List (S58)))).bind fun Xk => (if Xv.2.2.2 = 0 then (if Xk.2.2.2 = 0 then ((quadratref06_SameInts.f k Xv.2.2.1 (([1, 4] : List Int))).bind fun XO => (if XO = true then (if Xk.1 = 9 then ((quadratref06_SameInts.f k Xk.2.1 (([2] : List Int))).bind fun XD => (if XD = true then ((quadratref06_SameInts.f k Xk.2.2.1 (([2] : List Int))).bind fun Xn => (some Xn)) else (some false))) else (some false)) else (some false))) else (some false)) else (some false)))) = some r := by first | (rw [hy174]; with_reducible exact H) | (have XY := (Option.bind_some _ _).symm.trans H; rw [hy174]; with_reducible exact XY) | (have XY := (Option.bind_some _ _).symm.trans H; with_reducible exact XY) | with_reducible exact H | (rw [hy174]; exact H) | exact H
  have Ny174 := Aside0.mk hy174
  clear hy174
  replace H := Option.bind_eq_some_iff.mp H
  obtain ⟨⟨XG, XI, XE, X5⟩, Zd, H⟩ := H
  replace H : ((section_Cut.f k XG XI XE (([(⟨false, 0, (⟨1, 3, 2⟩ : S23)⟩ : S58), (⟨true, 2, (⟨0, 0, 0⟩ : S23)⟩ : S58)] : List (S58)))).bind fun Xk => (if X5 = 0 then (if Xk.2.2.2 = 0 then ((quadratref06_SameInts.f k XE (([1, 4] : List Int))).bind fun XO => (if XO = true then (if Xk.1 = 9 then ((quadratref06_SameInts.f k Xk.2.1 (([2] : List Int))).bind fun XD => (if XD = true then ((quadratref06_SameInts.f k Xk.2.2.1 (([2] : List Int))).bind fun Xn => (some Xn)) else (some false))) else (some false)) else (some false))) else (some false)) else (some false))) = some r := H
  have A1 := Aside0.mk Zd
  clear Zd
  obtain ⟨y186, hy186⟩ : ∃ y_ : List (S58), y_ = (([(⟨false, 0, (⟨1, 3, 2⟩ : S23)⟩ : S58), (⟨true, 2, (⟨0, 0, 0⟩ : S23)⟩ : S58)] : List (S58))) := ⟨_, rfl⟩
  replace H : ((section_Cut.f k XG XI XE y186).bind fun Xk => (if X5 = 0 then (if Xk.2.2.2 = 0 then ((quadratref06_SameInts.f k XE (([1, 4] : List Int))).bind fun XO => (if XO = true then (if Xk.1 = 9 then ((quadratref06_SameInts.f k Xk.2.1 (([2] : List Int))).bind fun XD => (if XD = true then ((quadratref06_SameInts.f k Xk.2.2.1 (([2] : List Int))).bind fun Xn => (some Xn)) else (some false))) else (some false)) else (some false))) else (some false)) else (some false))) = some r := by first | (rw [hy186]; with_reducible exact H) | (have XY := (Option.bind_some _ _).symm.trans H; rw [hy186]; with_reducible exact XY) | (have XY := (Option.bind_some _ _).symm.trans H; with_reducible exact XY) | with_reducible exact H | (rw [hy186]; exact H) | exact H
  have Ny186 := Aside0.mk hy186
  clear hy186
  replace H := Option.bind_eq_some_iff.mp H
  obtain ⟨⟨Xo, Xx, Xw, Yd⟩, YF, H⟩ := H
  replace H : (if X5 = 0 then (if Yd = 0 then ((quadratref06_SameInts.f k XE (([1, 4] : List Int))).bind fun XO => (if XO = true then (if Xo = 9 then ((quadratref06_SameInts.f k Xx (([2] : List Int))).bind fun XD => (if XD = true then ((quadratref06_SameInts.f k Xw (([2] : List Int))).bind fun Xn => (some Xn)) else (some false))) else (some false)) else (some false))) else (some false)) else (some false)) = some r := H
  have A2 := Aside0.mk YF
  clear YF
  by_cases c3 : X5 = 0
  case neg =>
   rw [if_neg c3] at H
   have Yl : (X5 == 0) = false := beq_eq_false_iff_ne.mpr c3
   have ZK : (X5 != 0) = true := bne_iff_ne.mpr c3
   exact absurd (Eq.trans H (congrArg some YI.out)) (by simp)
  rw [if_pos c3] at H
  have Yl : (X5 == 0) = true := beq_iff_eq.mpr c3
  have ZK : (X5 != 0) = false := bne_eq_false_iff_eq.mpr c3
  clear c3
  by_cases c4 : Yd = 0
  case neg =>
   rw [if_neg c4] at H
   have ZL : (Yd == 0) = false := beq_eq_false_iff_ne.mpr c4
   have ZM : (Yd != 0) = true := bne_iff_ne.mpr c4
   exact absurd (Eq.trans H (congrArg some YI.out)) (by simp)
  rw [if_pos c4] at H
  have ZL : (Yd == 0) = true := beq_iff_eq.mpr c4
  have ZM : (Yd != 0) = false := bne_eq_false_iff_eq.mpr c4
  clear c4
  obtain ⟨y198, hy198⟩ : ∃ y_ : List Int, y_ = (([1, 4] : List Int)) := ⟨_, rfl⟩
  replace H : ((quadratref06_SameInts.f k XE y198).bind fun XO => (if XO = true then (if Xo = 9 then ((quadratref06_SameInts.f k Xx (([2] : List Int))).bind fun XD => (if XD = true then ((quadratref06_SameInts.f k Xw (([2] : List Int))).bind fun Xn => (some Xn)) else (some false))) else (some false)) else (some false))) = some r := by first | (rw [hy198]; with_reducible exact H) | (have XY := (Option.bind_some _ _).symm.trans H; rw [hy198]; with_reducible exact XY) | (have XY := (Option.bind_some _ _).symm.trans H; with_reducible exact XY) | with_reducible exact H | (rw [hy198]; exact H) | exact H
  have Ny198 := Aside0.mk hy198
  clear hy198
  replace H := Option.bind_eq_some_iff.mp H
  obtain ⟨XO, Z5, H⟩ := H
  replace H : (if XO = true then (if Xo = 9 then ((quadratref06_SameInts.f k Xx (([2] : List Int))).bind fun XD => (if XD = true then ((quadratref06_SameInts.f k Xw (([2] : List Int))).bind fun Xn => (some Xn)) else (some false))) else (some false)) else (some false)) = some r := H
  have A5 := Aside0.mk Z5
  clear Z5
  by_cases c6 : XO = true
  case neg =>
   replace c6 := Bool.eq_false_iff.mpr c6
   subst c6
   have H1 : (some false) = some r := by rw [if_neg (show ¬ (false = true) by decide)] at H; exact H
   clear H
   have H := H1
   clear H1
   exact absurd (Eq.trans H (congrArg some YI.out)) (by simp)
  subst c6
  have H1 : (if Xo = 9 then ((quadratref06_SameInts.f k Xx (([2] : List Int))).bind fun XD => (if XD = true then ((quadratref06_SameInts.f k Xw (([2] : List Int))).bind fun Xn => (some Xn)) else (some false))) else (some false)) = some r := by rw [if_pos rfl] at H; exact H
  clear H
  have H := H1
  clear H1
  by_cases c7 : Xo = 9
  case neg =>
   rw [if_neg c7] at H
   have ZN : (Xo == 9) = false := beq_eq_false_iff_ne.mpr c7
   have ZO : (Xo != 9) = true := bne_iff_ne.mpr c7
   exact absurd (Eq.trans H (congrArg some YI.out)) (by simp)
  rw [if_pos c7] at H
  have ZN : (Xo == 9) = true := beq_iff_eq.mpr c7
  have ZO : (Xo != 9) = false := bne_eq_false_iff_eq.mpr c7
  clear c7
  obtain ⟨y202, hy202⟩ : ∃ y_ : List Int, y_ = (([2] : List Int)) := ⟨_, rfl⟩
  replace H : ((quadratref06_SameInts.f k Xx y202).bind fun XD => (if XD = true then ((quadratref06_SameInts.f k Xw (([2] : List Int))).bind fun Xn => (some Xn)) else (some false))) = some r := by first | (rw [hy202]; with_reducible exact H) | (have XY := (Option.bind_some _ _).symm.trans H; rw [hy202]; with_reducible exact XY) | (have XY := (Option.bind_some _ _).symm.trans H; with_reducible exact XY) | with_reducible exact H | (rw [hy202]; exact H) | exact H
  have Ny202 := Aside0.mk hy202
  clear hy202
  replace H := Option.bind_eq_some_iff.mp H
  obtain ⟨XD, Z6, H⟩ := H
  replace H : (if XD = true then ((quadratref06_SameInts.f k Xw (([2] : List Int))).bind fun Xn => (some Xn)) else (some false)) = some r := H
  have A8 := Aside0.mk Z6
  clear Z6
  by_cases c9 : XD = true
  case neg =>
   replace c9 := Bool.eq_false_iff.mpr c9
   subst c9
   have H1 : (some false) = some r := by rw [if_neg (show ¬ (false = true) by decide)] at H; exact H
   clear H
   have H := H1
   clear H1
   exact absurd (Eq.trans H (congrArg some YI.out)) (by simp)
  subst c9
  have H1 : ((quadratref06_SameInts.f k Xw (([2] : List Int))).bind fun Xn => (some Xn)) = some r := by rw [if_pos rfl] at H; exact H
  clear H
  have H := H1
  clear H1
  obtain ⟨y206, hy206⟩ : ∃ y_ : List Int, y_ = (([2] : List Int)) := ⟨_, rfl⟩
  replace H : ((quadratref06_SameInts.f k Xw y206).bind fun Xn => (some Xn)) = some r := by first | (rw [hy206]; with_reducible exact H) | (have XY := (Option.bind_some _ _).symm.trans H; rw [hy206]; with_reducible exact XY) | (have XY := (Option.bind_some _ _).symm.trans H; with_reducible exact XY) | with_reducible exact H | (rw [hy206]; exact H) | exact H
  have Ny206 := Aside0.mk hy206
  clear hy206
  replace H := Option.bind_eq_some_iff.mp H
  obtain ⟨Xn, YJ, H⟩ := H
  replace H : (some Xn) = some r := H
  have Zd := Aside0.mk YJ
  clear YJ
  obtain rfl := Option.some.inj H
  go_enter Try.func14, Try.ntmps14
  go_wp2_with (first | ((with_reducible refine gate_dst (N := 6) rfl ?_); (try (refine gate_guard (by rfl) ?_; dsimp only)); refine Kd.R_lit (Kd.int .i64) _ 3 ?hg (N := 6) ?hd (xs := ([4, 3] : List Int)) (inner := [.int .i64 4, .int .i64 3]) (ok := fun _ => True) (okp := fun _ => True) ?hr ?hp (fun _ hk => hk) trivial (Below.refl _ _) (Nat.le_refl _) (by simp) ?_; (case hd => rfl); (case hg => rfl); (case hr => first | (go_simp; done) | (go_simp; rfl)); (case hp => exact (Reps.one (show Kd.M (Kd.int .i64) _ _ _ 4 [.int .i64 4] from rfl) (Reps.one (show Kd.M (Kd.int .i64) _ _ _ 3 [.int .i64 3] from rfl) (Reps.none _ _)))); intro v175 w11 ho12 hb hg_ hnew_; clear hg_ hnew_; (first | rw [← Ny174.out] at ho12 | (simp only [Int.reduceToNat] at ho12; rw [← Ny174.out] at ho12)); have XA := Aside0.mk (Kd.R_lower ho12 (below_size (by exact upL HB.out))); have XB := Aside0.mk (below_step (by exact upL HB.out) hb); clear HB; have Xf := XA; have HB := XB; clear XA XB; clear hb ho12; obtain ⟨ZP, ZQ, eo13⟩ := Kd.R_slice Xf.out; subst eo13) | ((with_reducible refine gate_callee (f := 31) rfl ?_); refine goesL_ (some 7) rfl rfl Try.func31 (by kernel_rfl) rfl #[.slice ZP y174.length ZQ] rfl (by (try simp only [List.map_toArray, List.map_cons, List.map_nil]); first | done | rfl | (simp only [List.length_drop, List.length_take]; rfl)) ?_; (with_reducible refine (section_Whole.calls k _ _ y174 XG XI XE X5 _ ?side1 ?side2 A1.out).mono ?_); (case side1 => repeat (first | exact (Kd.R_reads' Xf.out).2.2 | (with_reducible refine Kd.C_alloc ?_ _) | (with_reducible refine Kd.C_drewN ?_ _) | (with_reducible refine Kd.C_drew ?_))); (case side2 => exact (Kd.R_reads' Xf.out).2.1); rintro e w14 ⟨v179, v182, rfl, ho0, ho1, hb⟩; refine ⟨_, rfl, ?_⟩; have XA := Aside0.mk (Kd.R_mono (Kd.R_told (Kd.R_told (Kd.R_old (by (with_reducible repeat apply upG); exact Xf.out) hb) (Kd.R_base ho0)) (Kd.R_base ho1)) (fun _ h_ => h_.1)); have XB := Aside0.mk (Kd.R_lower (Kd.R_new' ho0 (Kd.R_lt (by (with_reducible repeat apply upG); exact Xf.out))) (below_size (by exact upL HB.out))); have XH := Aside0.mk (Kd.R_lower (Kd.R_new' ho1 (Kd.R_lt (by (with_reducible repeat apply upG); exact Xf.out))) (below_size (by exact upL HB.out))); have XJ := Aside0.mk (below_step (by exact upL HB.out) hb); clear Xf; clear HB; have Xf := XA; have Xi := XB; have Xg := XH; have HB := XJ; clear XA XB XH XJ; (try clear hb); (try clear ZV); (try clear hk); (try clear hi); (try clear ho0); (try clear ho1)) | ((with_reducible refine gate_dst (N := 1) rfl ?_); (try (refine gate_guard (by rfl) ?_; dsimp only)); refine box_event ?hg (N := 1) ?hd (cs := #[.int .i64 0, .slice none 0 0, .slice none 0 0]) (t := 31) ?hr ?_; (case hd => rfl); (case hg => rfl); (case hr => first | (go_simp; done) | (go_simp; rfl)); intro Xj hg w15 hbox hb; have XA := Aside0.mk (Kd.R_below (by (with_reducible repeat apply upG); exact Xf.out) hb); have XB := Aside0.mk (Kd.R_below (by (with_reducible repeat apply upG); exact Xi.out) hb); have XH := Aside0.mk (Kd.R_below (by (with_reducible repeat apply upG); exact Xg.out) hb); have XJ := Aside0.mk (below_step (by exact upL HB.out) hb); have XW := Aside0.mk (hbox); have XX := Aside0.mk ((by rw [hg]; exact (below_size (by exact upL HB.out)) : w.heap.size ≤ Xj)); have X2 := Aside0.mk ((by rw [hg]; exact (below_size (by exact upL HB.out)) : w.heap.size ≤ Xj)); clear Xf; clear Xi; clear Xg; clear HB; have Xf := XA; have Xi := XB; have Xg := XH; have HB := XJ; have Xd := XW; have Z7 := XX; have XC := X2; clear XA XB XH XJ XW XX X2; clear hb hbox hg; have Ze : w15.cell? ⟨Xj, 0, none⟩ = some (.int .i64 0) := (blk_cell Xd.out 0).trans rfl; have Zf : w15.cell? ⟨Xj, 1, none⟩ = some (.slice none 0 0) := (blk_cell Xd.out 1).trans rfl; have Zg : w15.cell? ⟨Xj, 2, none⟩ = some (.slice none 0 0) := (blk_cell Xd.out 2).trans rfl; have Zh := blk_frozen Xd.out 0; have Zi := blk_frozen Xd.out 1; have Zj := blk_frozen Xd.out 2; obtain ⟨XR, XS, eo17⟩ := Kd.R_slice Xi.out; subst eo17; obtain ⟨XU, XV, eo18⟩ := Kd.R_slice Xg.out; subst eo18) | ((with_reducible refine gate_dst (N := 15) rfl ?_); (try (refine gate_guard (by rfl) ?_; dsimp only)); refine Kd.R_lit k58 _ 58 ?hg (N := 15) ?hd (xs := ([(⟨false, 0, (⟨1, 3, 2⟩ : S23)⟩ : S58), (⟨true, 2, (⟨0, 0, 0⟩ : S23)⟩ : S58)] : List (S58))) (inner := [.bool false, .int .i64 0, .int .i64 1, .int .i64 3, .int .i64 2, .bool true, .int .i64 2, .int .i64 0, .int .i64 0, .int .i64 0]) (ok := fun _ => True) (okp := fun _ => True) ?hr ?hp (fun _ hk => hk) trivial (Below.refl _ _) (Nat.le_refl _) (by simp) ?_; (case hd => rfl); (case hg => rfl); (case hr => first | (go_simp; done) | (go_simp; rfl)); (case hp => exact (Reps.c5 (show Kd.M k58 _ _ _ (⟨false, 0, (⟨1, 3, 2⟩ : S23)⟩ : S58) [.bool false, .int .i64 0, .int .i64 1, .int .i64 3, .int .i64 2] from (k58_mkM _ _ _ (⟨false, 0, (⟨1, 3, 2⟩ : S23)⟩ : S58) )) (Reps.c5 (show Kd.M k58 _ _ _ (⟨true, 2, (⟨0, 0, 0⟩ : S23)⟩ : S58) [.bool true, .int .i64 2, .int .i64 0, .int .i64 0, .int .i64 0] from (k58_mkM _ _ _ (⟨true, 2, (⟨0, 0, 0⟩ : S23)⟩ : S58) )) (Reps.none _ _)))); intro v187 w19 ho20 hb hg_ hnew_; clear hg_ hnew_; (first | rw [← Ny186.out] at ho20 | (simp only [Int.reduceToNat] at ho20; rw [← Ny186.out] at ho20)); have XA := Aside0.mk (Kd.R_below (by (with_reducible repeat apply upG); exact (Kd.R_mono (Kd.R_far (p := ⟨Xj, 2, none⟩) (Kd.R_far (p := ⟨Xj, 1, none⟩) (Kd.R_far (p := ⟨Xj, 0, none⟩) (Kd.R_types Xf.out Xd.out (by decide)) (fun _ hk => hk.2) (.int .i64 XG)) (fun _ hk => hk.2) (.slice XR XI.length XS)) (fun _ hk => hk.2) (.slice XU XE.length XV)) (fun _ h_ => h_.1))) hb); have XB := Aside0.mk (Kd.R_below (by (with_reducible repeat apply upG); exact (Kd.R_mono (Kd.R_far (p := ⟨Xj, 2, none⟩) (Kd.R_far (p := ⟨Xj, 1, none⟩) (Kd.R_far (p := ⟨Xj, 0, none⟩) (Kd.R_types Xi.out Xd.out (by decide)) (fun _ hk => hk.2) (.int .i64 XG)) (fun _ hk => hk.2) (.slice XR XI.length XS)) (fun _ hk => hk.2) (.slice XU XE.length XV)) (fun _ h_ => h_.1))) hb); have XH := Aside0.mk (Kd.R_below (by (with_reducible repeat apply upG); exact (Kd.R_mono (Kd.R_far (p := ⟨Xj, 2, none⟩) (Kd.R_far (p := ⟨Xj, 1, none⟩) (Kd.R_far (p := ⟨Xj, 0, none⟩) (Kd.R_types Xg.out Xd.out (by decide)) (fun _ hk => hk.2) (.int .i64 XG)) (fun _ hk => hk.2) (.slice XR XI.length XS)) (fun _ hk => hk.2) (.slice XU XE.length XV)) (fun _ h_ => h_.1))) hb); have XJ := Aside0.mk (Kd.R_lower ho20 (below_size (by repeat (first | (with_reducible first | exact HB.out | apply upS | refine below_set ?_ XC.out) | exact HB.out)))); have XW := Aside0.mk (blk_below (g := Xj) (o := .cells #[.int .i64 XG, .slice XR XI.length XS, .slice XU XE.length XV] 31 (0, 0)) (by (with_reducible repeat apply upF); refine blk_put (cs := #[.int .i64 XG, .slice XR XI.length XS, .slice none 0 0]) ?_ 2 _ rfl; (with_reducible repeat apply upF); refine blk_put (cs := #[.int .i64 XG, .slice none 0 0, .slice none 0 0]) ?_ 1 _ rfl; (with_reducible repeat apply upF); refine blk_put (cs := #[.int .i64 0, .slice none 0 0, .slice none 0 0]) ?_ 0 _ rfl; exact upB Xd.out) hb); have XX := Aside0.mk (below_step (by repeat (first | (with_reducible first | exact HB.out | apply upS | refine below_set ?_ XC.out) | exact HB.out)) hb); clear Xf; clear Xi; clear Xg; clear Xd; clear HB; have Xf := XA; have Xi := XB; have Xg := XH; have Xp := XJ; have Xd := XW; have HB := XX; clear XA XB XH XJ XW XX; clear hb ho20; obtain ⟨ZR, ZS, eo21⟩ := Kd.R_slice Xp.out; subst eo21) | ((with_reducible refine gate_callee (f := 15) rfl ?_); refine goesL_ (some 16) rfl rfl Try.func15 (by kernel_rfl) rfl #[.agg #[.int .i64 XG, .slice XR XI.length XS, .slice XU XE.length XV], .slice ZR y186.length ZS] rfl (by (try simp only [List.map_toArray, List.map_cons, List.map_nil]); first | done | rfl | (simp only [List.length_drop, List.length_take]; rfl)) ?_; (with_reducible refine (section_Cut.calls k XG _ _ XI _ _ XE _ _ y186 Xo Xx Xw Yd _ ?side1 ?side2 ?side3 ?side4 ?side5 ?side6 A2.out).mono ?_); (case side1 => repeat (first | exact (Kd.R_reads' Xi.out).2.2 | (with_reducible refine Kd.C_alloc ?_ _) | (with_reducible refine Kd.C_drewN ?_ _) | (with_reducible refine Kd.C_drew ?_))); (case side2 => exact (Kd.R_reads' Xi.out).2.1); (case side3 => repeat (first | exact (Kd.R_reads' Xg.out).2.2 | (with_reducible refine Kd.C_alloc ?_ _) | (with_reducible refine Kd.C_drewN ?_ _) | (with_reducible refine Kd.C_drew ?_))); (case side4 => exact (Kd.R_reads' Xg.out).2.1); (case side5 => repeat (first | exact (Kd.R_reads' Xp.out).2.2 | (with_reducible refine Kd.C_alloc ?_ _) | (with_reducible refine Kd.C_drewN ?_ _) | (with_reducible refine Kd.C_drew ?_))); (case side6 => exact (Kd.R_reads' Xp.out).2.1); rintro e w22 ⟨v191, v194, rfl, ho0, ho1, hb⟩; refine ⟨_, rfl, ?_⟩; have XA := Aside0.mk (Kd.R_mono (Kd.R_told (Kd.R_told (Kd.R_old (by (with_reducible repeat apply upG); exact Xf.out) hb) (Kd.R_base ho0)) (Kd.R_base ho1)) (fun _ h_ => h_.1)); have XB := Aside0.mk (Kd.R_mono (Kd.R_told (Kd.R_told (Kd.R_old (by (with_reducible repeat apply upG); exact Xi.out) hb) (Kd.R_base ho0)) (Kd.R_base ho1)) (fun _ h_ => h_.1)); have XH := Aside0.mk (Kd.R_mono (Kd.R_told (Kd.R_told (Kd.R_old (by (with_reducible repeat apply upG); exact Xg.out) hb) (Kd.R_base ho0)) (Kd.R_base ho1)) (fun _ h_ => h_.1)); have XJ := Aside0.mk (Kd.R_below (by (with_reducible repeat apply upG); exact Xp.out) hb); have XW := Aside0.mk (Kd.R_lower (Kd.R_new' (Kd.R_new' (Kd.R_new' ho0 (Kd.R_lt (by (with_reducible repeat apply upG); exact Xf.out))) (Kd.R_lt (by (with_reducible repeat apply upG); exact Xi.out))) (Kd.R_lt (by (with_reducible repeat apply upG); exact Xg.out))) (below_size (by repeat (first | (with_reducible first | exact HB.out | apply upS | refine below_set ?_ XC.out) | exact HB.out)))); have XX := Aside0.mk (Kd.R_lower (Kd.R_new' (Kd.R_new' (Kd.R_new' ho1 (Kd.R_lt (by (with_reducible repeat apply upG); exact Xf.out))) (Kd.R_lt (by (with_reducible repeat apply upG); exact Xi.out))) (Kd.R_lt (by (with_reducible repeat apply upG); exact Xg.out))) (below_size (by repeat (first | (with_reducible first | exact HB.out | apply upS | refine below_set ?_ XC.out) | exact HB.out)))); have X2 := Aside0.mk (blk_below (g := Xj) (o := .cells #[.int .i64 XG, .slice XR XI.length XS, .slice XU XE.length XV] 31 (0, 0)) (by exact upB Xd.out) hb); have X7 := Aside0.mk (below_step (by repeat (first | (with_reducible first | exact HB.out | apply upS | refine below_set ?_ XC.out) | exact HB.out)) hb); clear Xf; clear Xi; clear Xg; clear Xp; clear Xd; clear HB; have Xf := XA; have Xi := XB; have Xg := XH; have Xp := XJ; have Xq := XW; have Xr := XX; have Xd := X2; have HB := X7; clear XA XB XH XJ XW XX X2 X7; (try clear hb); (try clear ZV); (try clear hk); (try clear hi); (try clear ho0); (try clear ho1)) | ((with_reducible refine gate_dst (N := 3) rfl ?_); (try (refine gate_guard (by rfl) ?_; dsimp only)); refine box_event ?hg (N := 3) ?hd (cs := #[.int .i64 0, .slice none 0 0, .slice none 0 0]) (t := 31) ?hr ?_; (case hd => rfl); (case hg => rfl); (case hr => first | (go_simp; done) | (go_simp; rfl)); intro Xa hg w23 hbox hb; have XA := Aside0.mk (Kd.R_below (by (with_reducible repeat apply upG); exact Xf.out) hb); have XB := Aside0.mk (Kd.R_below (by (with_reducible repeat apply upG); exact Xi.out) hb); have XH := Aside0.mk (Kd.R_below (by (with_reducible repeat apply upG); exact Xg.out) hb); have XJ := Aside0.mk (Kd.R_below (by (with_reducible repeat apply upG); exact Xp.out) hb); have XW := Aside0.mk (Kd.R_below (by (with_reducible repeat apply upG); exact Xq.out) hb); have XX := Aside0.mk (Kd.R_below (by (with_reducible repeat apply upG); exact Xr.out) hb); have X2 := Aside0.mk (blk_below (g := Xj) (o := .cells #[.int .i64 XG, .slice XR XI.length XS, .slice XU XE.length XV] 31 (0, 0)) (by exact upB Xd.out) hb); have X7 := Aside0.mk (below_step (by repeat (first | (with_reducible first | exact HB.out | apply upS | refine below_set ?_ XC.out) | exact HB.out)) hb); have Yh := Aside0.mk (hbox); have Yi := Aside0.mk ((by rw [hg]; exact (below_size (by repeat (first | (with_reducible first | exact HB.out | apply upS | refine below_set ?_ XC.out) | exact HB.out))) : w.heap.size ≤ Xa)); have Ya := Aside0.mk ((by rw [hg]; exact (below_size (by repeat (first | (with_reducible first | exact HB.out | apply upS | refine below_set ?_ XC.out) | exact HB.out))) : w.heap.size ≤ Xa)); have Yj := Aside0.mk ((by rw [hg]; exact Nat.ne_of_lt (blk_lt (g := Xj) (o := .cells #[.int .i64 XG, .slice XR XI.length XS, .slice XU XE.length XV] 31 (0, 0)) (by exact upB Xd.out)) : Xj ≠ Xa)); have YK := Aside0.mk ((by rw [hg]; exact Nat.ne_of_gt (blk_lt (g := Xj) (o := .cells #[.int .i64 XG, .slice XR XI.length XS, .slice XU XE.length XV] 31 (0, 0)) (by exact upB Xd.out)) : Xa ≠ Xj)); clear Xf; clear Xi; clear Xg; clear Xp; clear Xq; clear Xr; clear Xd; clear HB; have Xf := XA; have Xi := XB; have Xg := XH; have Xp := XJ; have Xq := XW; have Xr := XX; have Xd := X2; have HB := X7; have Xc := Yh; have Z8 := Yi; have XZ := Ya; have XN := Yj; have Yg := YK; clear XA XB XH XJ XW XX X2 X7 Yh Yi Ya Yj YK; clear hb hbox hg; have Z9 := Yg.out; have Va := XN.out; have Zk : w23.cell? ⟨Xa, 0, none⟩ = some (.int .i64 0) := (blk_cell Xc.out 0).trans rfl; have Zl : w23.cell? ⟨Xa, 1, none⟩ = some (.slice none 0 0) := (blk_cell Xc.out 1).trans rfl; have Zm : w23.cell? ⟨Xa, 2, none⟩ = some (.slice none 0 0) := (blk_cell Xc.out 2).trans rfl; have Zn := blk_frozen Xc.out 0; have Zo := blk_frozen Xc.out 1; have Zp := blk_frozen Xc.out 2; obtain ⟨XK, XL, eo26⟩ := Kd.R_slice Xq.out; subst eo26; obtain ⟨XP, XQ, eo27⟩ := Kd.R_slice Xr.out; subst eo27; have Zq : w23.cell? ⟨Xj, 0, none⟩ = some (.int .i64 XG) := (blk_cell Xd.out 0).trans rfl; have Zr : w23.cell? ⟨Xj, 1, none⟩ = some (.slice XR XI.length XS) := (blk_cell Xd.out 1).trans rfl; have Zs : w23.cell? ⟨Xj, 2, none⟩ = some (.slice XU XE.length XV) := (blk_cell Xd.out 2).trans rfl; have Zt := blk_frozen Xd.out 0; have Zu := blk_frozen Xd.out 1; have Zv := blk_frozen Xd.out 2) | ((with_reducible refine gate_dst (N := 28) rfl ?_); (try (refine gate_guard (by rfl) ?_; dsimp only)); refine Kd.R_lit (Kd.int .i64) _ 3 ?hg (N := 28) ?hd (xs := ([1, 4] : List Int)) (inner := [.int .i64 1, .int .i64 4]) (ok := fun _ => True) (okp := fun _ => True) ?hr ?hp (fun _ hk => hk) trivial (Below.refl _ _) (Nat.le_refl _) (by simp) ?_; (case hd => rfl); (case hg => rfl); (case hr => first | (go_simp; done) | (go_simp; rfl)); (case hp => exact (Reps.one (show Kd.M (Kd.int .i64) _ _ _ 1 [.int .i64 1] from rfl) (Reps.one (show Kd.M (Kd.int .i64) _ _ _ 4 [.int .i64 4] from rfl) (Reps.none _ _)))); intro v199 w29 ho30 hb hg_ hnew_; clear hg_ hnew_; (first | rw [← Ny198.out] at ho30 | (simp only [Int.reduceToNat] at ho30; rw [← Ny198.out] at ho30)); have XA := Aside0.mk (Kd.R_elder' (by (with_reducible repeat apply upG); exact (Kd.R_mono (Kd.R_far (p := ⟨Xa, 2, none⟩) (Kd.R_far (p := ⟨Xa, 1, none⟩) (Kd.R_far (p := ⟨Xa, 0, none⟩) (Kd.R_types Xf.out Xc.out (by decide)) (fun _ hk => hk.2) (.int .i64 Xo)) (fun _ hk => hk.2) (.slice XK Xx.length XL)) (fun _ hk => hk.2) (.slice XP Xw.length XQ)) (fun _ h_ => h_.1))) (Kd.R_base ho30) hb); have XB := Aside0.mk (Kd.R_elder' (by (with_reducible repeat apply upG); exact (Kd.R_mono (Kd.R_far (p := ⟨Xa, 2, none⟩) (Kd.R_far (p := ⟨Xa, 1, none⟩) (Kd.R_far (p := ⟨Xa, 0, none⟩) (Kd.R_types Xi.out Xc.out (by decide)) (fun _ hk => hk.2) (.int .i64 Xo)) (fun _ hk => hk.2) (.slice XK Xx.length XL)) (fun _ hk => hk.2) (.slice XP Xw.length XQ)) (fun _ h_ => h_.1))) (Kd.R_base ho30) hb); have XH := Aside0.mk (Kd.R_elder' (by (with_reducible repeat apply upG); exact (Kd.R_mono (Kd.R_far (p := ⟨Xa, 2, none⟩) (Kd.R_far (p := ⟨Xa, 1, none⟩) (Kd.R_far (p := ⟨Xa, 0, none⟩) (Kd.R_types Xg.out Xc.out (by decide)) (fun _ hk => hk.2) (.int .i64 Xo)) (fun _ hk => hk.2) (.slice XK Xx.length XL)) (fun _ hk => hk.2) (.slice XP Xw.length XQ)) (fun _ h_ => h_.1))) (Kd.R_base ho30) hb); have XJ := Aside0.mk (Kd.R_below (by (with_reducible repeat apply upG); exact (Kd.R_mono (Kd.R_far (p := ⟨Xa, 2, none⟩) (Kd.R_far (p := ⟨Xa, 1, none⟩) (Kd.R_far (p := ⟨Xa, 0, none⟩) (Kd.R_types Xp.out Xc.out (by decide)) (fun _ hk => hk.2) (.int .i64 Xo)) (fun _ hk => hk.2) (.slice XK Xx.length XL)) (fun _ hk => hk.2) (.slice XP Xw.length XQ)) (fun _ h_ => h_.1))) hb); have XW := Aside0.mk (Kd.R_elder' (by (with_reducible repeat apply upG); exact (Kd.R_mono (Kd.R_far (p := ⟨Xa, 2, none⟩) (Kd.R_far (p := ⟨Xa, 1, none⟩) (Kd.R_far (p := ⟨Xa, 0, none⟩) (Kd.R_types Xq.out Xc.out (by decide)) (fun _ hk => hk.2) (.int .i64 Xo)) (fun _ hk => hk.2) (.slice XK Xx.length XL)) (fun _ hk => hk.2) (.slice XP Xw.length XQ)) (fun _ h_ => h_.1))) (Kd.R_base ho30) hb); have XX := Aside0.mk (Kd.R_elder' (by (with_reducible repeat apply upG); exact (Kd.R_mono (Kd.R_far (p := ⟨Xa, 2, none⟩) (Kd.R_far (p := ⟨Xa, 1, none⟩) (Kd.R_far (p := ⟨Xa, 0, none⟩) (Kd.R_types Xr.out Xc.out (by decide)) (fun _ hk => hk.2) (.int .i64 Xo)) (fun _ hk => hk.2) (.slice XK Xx.length XL)) (fun _ hk => hk.2) (.slice XP Xw.length XQ)) (fun _ h_ => h_.1))) (Kd.R_base ho30) hb); have X2 := Aside0.mk (Kd.R_lower (Kd.R_new' (Kd.R_new' (Kd.R_new' (Kd.R_new' (Kd.R_new' ho30 (Kd.R_lt (by (with_reducible repeat apply upG); exact (Kd.R_mono (Kd.R_far (p := ⟨Xa, 2, none⟩) (Kd.R_far (p := ⟨Xa, 1, none⟩) (Kd.R_far (p := ⟨Xa, 0, none⟩) (Kd.R_types Xf.out Xc.out (by decide)) (fun _ hk => hk.2) (.int .i64 Xo)) (fun _ hk => hk.2) (.slice XK Xx.length XL)) (fun _ hk => hk.2) (.slice XP Xw.length XQ)) (fun _ h_ => h_.1))))) (Kd.R_lt (by (with_reducible repeat apply upG); exact (Kd.R_mono (Kd.R_far (p := ⟨Xa, 2, none⟩) (Kd.R_far (p := ⟨Xa, 1, none⟩) (Kd.R_far (p := ⟨Xa, 0, none⟩) (Kd.R_types Xi.out Xc.out (by decide)) (fun _ hk => hk.2) (.int .i64 Xo)) (fun _ hk => hk.2) (.slice XK Xx.length XL)) (fun _ hk => hk.2) (.slice XP Xw.length XQ)) (fun _ h_ => h_.1))))) (Kd.R_lt (by (with_reducible repeat apply upG); exact (Kd.R_mono (Kd.R_far (p := ⟨Xa, 2, none⟩) (Kd.R_far (p := ⟨Xa, 1, none⟩) (Kd.R_far (p := ⟨Xa, 0, none⟩) (Kd.R_types Xg.out Xc.out (by decide)) (fun _ hk => hk.2) (.int .i64 Xo)) (fun _ hk => hk.2) (.slice XK Xx.length XL)) (fun _ hk => hk.2) (.slice XP Xw.length XQ)) (fun _ h_ => h_.1))))) (Kd.R_lt (by (with_reducible repeat apply upG); exact (Kd.R_mono (Kd.R_far (p := ⟨Xa, 2, none⟩) (Kd.R_far (p := ⟨Xa, 1, none⟩) (Kd.R_far (p := ⟨Xa, 0, none⟩) (Kd.R_types Xq.out Xc.out (by decide)) (fun _ hk => hk.2) (.int .i64 Xo)) (fun _ hk => hk.2) (.slice XK Xx.length XL)) (fun _ hk => hk.2) (.slice XP Xw.length XQ)) (fun _ h_ => h_.1))))) (Kd.R_lt (by (with_reducible repeat apply upG); exact (Kd.R_mono (Kd.R_far (p := ⟨Xa, 2, none⟩) (Kd.R_far (p := ⟨Xa, 1, none⟩) (Kd.R_far (p := ⟨Xa, 0, none⟩) (Kd.R_types Xr.out Xc.out (by decide)) (fun _ hk => hk.2) (.int .i64 Xo)) (fun _ hk => hk.2) (.slice XK Xx.length XL)) (fun _ hk => hk.2) (.slice XP Xw.length XQ)) (fun _ h_ => h_.1))))) (below_size (by repeat (first | (with_reducible first | exact HB.out | apply upS | refine below_set ?_ XC.out | refine below_set ?_ XZ.out) | exact HB.out)))); have X7 := Aside0.mk (blk_below (g := Xj) (o := .cells #[.int .i64 XG, .slice XR XI.length XS, .slice XU XE.length XV] 31 (0, 0)) (by (with_reducible repeat apply upF); refine blk_far ?_ XN.out _; (with_reducible repeat apply upF); refine blk_far ?_ XN.out _; (with_reducible repeat apply upF); refine blk_far ?_ XN.out _; exact upB Xd.out) hb); have Yh := Aside0.mk (blk_below (g := Xa) (o := .cells #[.int .i64 Xo, .slice XK Xx.length XL, .slice XP Xw.length XQ] 31 (0, 0)) (by (with_reducible repeat apply upF); refine blk_put (cs := #[.int .i64 Xo, .slice XK Xx.length XL, .slice none 0 0]) ?_ 2 _ rfl; (with_reducible repeat apply upF); refine blk_put (cs := #[.int .i64 Xo, .slice none 0 0, .slice none 0 0]) ?_ 1 _ rfl; (with_reducible repeat apply upF); refine blk_put (cs := #[.int .i64 0, .slice none 0 0, .slice none 0 0]) ?_ 0 _ rfl; exact upB Xc.out) hb); have Yi := Aside0.mk (below_step (by repeat (first | (with_reducible first | exact HB.out | apply upS | refine below_set ?_ XC.out | refine below_set ?_ XZ.out) | exact HB.out)) hb); clear Xf; clear Xi; clear Xg; clear Xp; clear Xq; clear Xr; clear Xd; clear Xc; clear HB; have Xf := XA; have Xi := XB; have Xg := XH; have Xp := XJ; have Xq := XW; have Xr := XX; have XM := X2; have Xd := X7; have Xc := Yh; have HB := Yi; clear XA XB XH XJ XW XX X2 X7 Yh Yi; clear hb ho30; obtain ⟨Vb, Vc, eo31⟩ := Kd.R_slice XM.out; subst eo31) | (go_at_call 22; (with_reducible refine (quadratref06_SameInts.calls k _ _ XE _ _ y198 true _ ?side1 ?side2 ?side3 ?side4 A5.out).mono ?_); (case side1 => repeat (first | exact (Kd.R_reads' Xg.out).2.2 | (with_reducible refine Kd.C_alloc ?_ _) | (with_reducible refine Kd.C_drewN ?_ _) | (with_reducible refine Kd.C_drew ?_))); (case side2 => exact (Kd.R_reads' Xg.out).2.1); (case side3 => repeat (first | exact (Kd.R_reads' XM.out).2.2 | (with_reducible refine Kd.C_alloc ?_ _) | (with_reducible refine Kd.C_drewN ?_ _) | (with_reducible refine Kd.C_drew ?_))); (case side4 => exact (Kd.R_reads' XM.out).2.1); rintro e w' ⟨rfl, ⟨nd, rfl⟩⟩; have Zw : w29.cell? ⟨Xa, 0, none⟩ = some (.int .i64 Xo) := (blk_cell Xc.out 0).trans rfl; have Zx : w29.cell? ⟨Xa, 1, none⟩ = some (.slice XK Xx.length XL) := (blk_cell Xc.out 1).trans rfl; have Zy : w29.cell? ⟨Xa, 2, none⟩ = some (.slice XP Xw.length XQ) := (blk_cell Xc.out 2).trans rfl; have Zz := blk_frozen Xc.out 0; have ZA := blk_frozen Xc.out 1; have ZB := blk_frozen Xc.out 2) | ((with_reducible refine gate_dst (N := 39) rfl ?_); (try (refine gate_guard (by rfl) ?_; dsimp only)); refine Kd.R_lit (Kd.int .i64) _ 3 ?hg (N := 39) ?hd (xs := ([2] : List Int)) (inner := [.int .i64 2]) (ok := fun _ => True) (okp := fun _ => True) ?hr ?hp (fun _ hk => hk) trivial (Below.refl _ _) (Nat.le_refl _) (by simp) ?_; (case hd => rfl); (case hg => rfl); (case hr => first | (go_simp; done) | (go_simp; rfl)); (case hp => exact (Reps.one (show Kd.M (Kd.int .i64) _ _ _ 2 [.int .i64 2] from rfl) (Reps.none _ _))); intro v203 w33 ho34 hb hg_ hnew_; clear hg_ hnew_; (first | rw [← Ny202.out] at ho34 | (simp only [Int.reduceToNat] at ho34; rw [← Ny202.out] at ho34)); have XA := Aside0.mk (Kd.R_elder' (by (with_reducible repeat apply upG); exact Xf.out) (Kd.R_base ho34) hb); have XB := Aside0.mk (Kd.R_elder' (by (with_reducible repeat apply upG); exact Xi.out) (Kd.R_base ho34) hb); have XH := Aside0.mk (Kd.R_elder' (by (with_reducible repeat apply upG); exact Xg.out) (Kd.R_base ho34) hb); have XJ := Aside0.mk (Kd.R_below (by (with_reducible repeat apply upG); exact Xp.out) hb); have XW := Aside0.mk (Kd.R_elder' (by (with_reducible repeat apply upG); exact Xq.out) (Kd.R_base ho34) hb); have XX := Aside0.mk (Kd.R_elder' (by (with_reducible repeat apply upG); exact Xr.out) (Kd.R_base ho34) hb); have X2 := Aside0.mk (Kd.R_elder' (by (with_reducible repeat apply upG); exact XM.out) (Kd.R_base ho34) hb); have X7 := Aside0.mk (Kd.R_lower (Kd.R_new' (Kd.R_new' (Kd.R_new' (Kd.R_new' (Kd.R_new' (Kd.R_new' ho34 (Kd.R_lt (by (with_reducible repeat apply upG); exact Xf.out))) (Kd.R_lt (by (with_reducible repeat apply upG); exact Xi.out))) (Kd.R_lt (by (with_reducible repeat apply upG); exact Xg.out))) (Kd.R_lt (by (with_reducible repeat apply upG); exact Xq.out))) (Kd.R_lt (by (with_reducible repeat apply upG); exact Xr.out))) (Kd.R_lt (by (with_reducible repeat apply upG); exact XM.out))) (below_size (by repeat (first | (with_reducible first | exact HB.out | apply upS | refine below_set ?_ XC.out | refine below_set ?_ XZ.out) | exact HB.out)))); have Yh := Aside0.mk (blk_below (g := Xj) (o := .cells #[.int .i64 XG, .slice XR XI.length XS, .slice XU XE.length XV] 31 (0, 0)) (by exact upB Xd.out) hb); have Yi := Aside0.mk (blk_below (g := Xa) (o := .cells #[.int .i64 Xo, .slice XK Xx.length XL, .slice XP Xw.length XQ] 31 (0, 0)) (by exact upB Xc.out) hb); have Ya := Aside0.mk (below_step (by repeat (first | (with_reducible first | exact HB.out | apply upS | refine below_set ?_ XC.out | refine below_set ?_ XZ.out) | exact HB.out)) hb); clear Xf; clear Xi; clear Xg; clear Xp; clear Xq; clear Xr; clear XM; clear Xd; clear Xc; clear HB; have Xf := XA; have Xi := XB; have Xg := XH; have Xp := XJ; have Xq := XW; have Xr := XX; have XM := X2; have X0 := X7; have Xd := Yh; have Xc := Yi; have HB := Ya; clear XA XB XH XJ XW XX X2 X7 Yh Yi Ya; clear hb ho34; obtain ⟨Vd, Ve, eo35⟩ := Kd.R_slice X0.out; subst eo35) | (go_at_call 22; (with_reducible refine (quadratref06_SameInts.calls k _ _ Xx _ _ y202 true _ ?side1 ?side2 ?side3 ?side4 A8.out).mono ?_); (case side1 => repeat (first | exact (Kd.R_reads' Xq.out).2.2 | (with_reducible refine Kd.C_alloc ?_ _) | (with_reducible refine Kd.C_drewN ?_ _) | (with_reducible refine Kd.C_drew ?_))); (case side2 => exact (Kd.R_reads' Xq.out).2.1); (case side3 => repeat (first | exact (Kd.R_reads' X0.out).2.2 | (with_reducible refine Kd.C_alloc ?_ _) | (with_reducible refine Kd.C_drewN ?_ _) | (with_reducible refine Kd.C_drew ?_))); (case side4 => exact (Kd.R_reads' X0.out).2.1); rintro e w' ⟨rfl, ⟨nd, rfl⟩⟩; have ZC : w33.cell? ⟨Xa, 0, none⟩ = some (.int .i64 Xo) := (blk_cell Xc.out 0).trans rfl; have ZD : w33.cell? ⟨Xa, 1, none⟩ = some (.slice XK Xx.length XL) := (blk_cell Xc.out 1).trans rfl; have ZE : w33.cell? ⟨Xa, 2, none⟩ = some (.slice XP Xw.length XQ) := (blk_cell Xc.out 2).trans rfl; have ZF := blk_frozen Xc.out 0; have ZG := blk_frozen Xc.out 1; have ZH := blk_frozen Xc.out 2) | ((with_reducible refine gate_dst (N := 45) rfl ?_); (try (refine gate_guard (by rfl) ?_; dsimp only)); refine Kd.R_lit (Kd.int .i64) _ 3 ?hg (N := 45) ?hd (xs := ([2] : List Int)) (inner := [.int .i64 2]) (ok := fun _ => True) (okp := fun _ => True) ?hr ?hp (fun _ hk => hk) trivial (Below.refl _ _) (Nat.le_refl _) (by simp) ?_; (case hd => rfl); (case hg => rfl); (case hr => first | (go_simp; done) | (go_simp; rfl)); (case hp => exact (Reps.one (show Kd.M (Kd.int .i64) _ _ _ 2 [.int .i64 2] from rfl) (Reps.none _ _))); intro v207 w37 ho38 hb hg_ hnew_; clear hg_ hnew_; (first | rw [← Ny206.out] at ho38 | (simp only [Int.reduceToNat] at ho38; rw [← Ny206.out] at ho38)); have XA := Aside0.mk (Kd.R_elder' (by (with_reducible repeat apply upG); exact Xf.out) (Kd.R_base ho38) hb); have XB := Aside0.mk (Kd.R_elder' (by (with_reducible repeat apply upG); exact Xi.out) (Kd.R_base ho38) hb); have XH := Aside0.mk (Kd.R_elder' (by (with_reducible repeat apply upG); exact Xg.out) (Kd.R_base ho38) hb); have XJ := Aside0.mk (Kd.R_below (by (with_reducible repeat apply upG); exact Xp.out) hb); have XW := Aside0.mk (Kd.R_elder' (by (with_reducible repeat apply upG); exact Xq.out) (Kd.R_base ho38) hb); have XX := Aside0.mk (Kd.R_elder' (by (with_reducible repeat apply upG); exact Xr.out) (Kd.R_base ho38) hb); have X2 := Aside0.mk (Kd.R_elder' (by (with_reducible repeat apply upG); exact XM.out) (Kd.R_base ho38) hb); have X7 := Aside0.mk (Kd.R_elder' (by (with_reducible repeat apply upG); exact X0.out) (Kd.R_base ho38) hb); have Yh := Aside0.mk (Kd.R_lower (Kd.R_new' (Kd.R_new' (Kd.R_new' (Kd.R_new' (Kd.R_new' (Kd.R_new' (Kd.R_new' ho38 (Kd.R_lt (by (with_reducible repeat apply upG); exact Xf.out))) (Kd.R_lt (by (with_reducible repeat apply upG); exact Xi.out))) (Kd.R_lt (by (with_reducible repeat apply upG); exact Xg.out))) (Kd.R_lt (by (with_reducible repeat apply upG); exact Xq.out))) (Kd.R_lt (by (with_reducible repeat apply upG); exact Xr.out))) (Kd.R_lt (by (with_reducible repeat apply upG); exact XM.out))) (Kd.R_lt (by (with_reducible repeat apply upG); exact X0.out))) (below_size (by repeat (first | (with_reducible first | exact HB.out | apply upS | refine below_set ?_ XC.out | refine below_set ?_ XZ.out) | exact HB.out)))); have Yi := Aside0.mk (blk_below (g := Xj) (o := .cells #[.int .i64 XG, .slice XR XI.length XS, .slice XU XE.length XV] 31 (0, 0)) (by exact upB Xd.out) hb); have Ya := Aside0.mk (blk_below (g := Xa) (o := .cells #[.int .i64 Xo, .slice XK Xx.length XL, .slice XP Xw.length XQ] 31 (0, 0)) (by exact upB Xc.out) hb); have Yj := Aside0.mk (below_step (by repeat (first | (with_reducible first | exact HB.out | apply upS | refine below_set ?_ XC.out | refine below_set ?_ XZ.out) | exact HB.out)) hb); clear Xf; clear Xi; clear Xg; clear Xp; clear Xq; clear Xr; clear XM; clear X0; clear Xd; clear Xc; clear HB; have Xf := XA; have Xi := XB; have Xg := XH; have Xp := XJ; have Xq := XW; have Xr := XX; have XM := X2; have X0 := X7; have Yk := Yh; have Xd := Yi; have Xc := Ya; have HB := Yj; clear XA XB XH XJ XW XX X2 X7 Yh Yi Ya Yj; clear hb ho38; obtain ⟨Vf, Vg, eo39⟩ := Kd.R_slice Yk.out; subst eo39) | (go_at_call 22; (with_reducible refine (quadratref06_SameInts.calls k _ _ Xw _ _ y206 Xn _ ?side1 ?side2 ?side3 ?side4 Zd.out).mono ?_); (case side1 => repeat (first | exact (Kd.R_reads' Xr.out).2.2 | (with_reducible refine Kd.C_alloc ?_ _) | (with_reducible refine Kd.C_drewN ?_ _) | (with_reducible refine Kd.C_drew ?_))); (case side2 => exact (Kd.R_reads' Xr.out).2.1); (case side3 => repeat (first | exact (Kd.R_reads' Yk.out).2.2 | (with_reducible refine Kd.C_alloc ?_ _) | (with_reducible refine Kd.C_drewN ?_ _) | (with_reducible refine Kd.C_drew ?_))); (case side4 => exact (Kd.R_reads' Yk.out).2.1); rintro e w' ⟨rfl, ⟨nd, rfl⟩⟩))
  go_ret
  exact ⟨by first | rfl | (simp [errW_none, errW_some] <;> rfl) | (simp [*, errW_none, errW_some] <;> rfl), by repeat (first | (with_reducible first | exact HB.out | apply upS | refine below_set ?_ XC.out | refine below_set ?_ XZ.out) | exact HB.out)⟩

end Go.Proofs.Yticjlkommabcjaa.PS
