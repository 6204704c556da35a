-- Printed by wip/qprint.py of this repository, over the kit's print, out of the translation. Not trusted: Lean checks it.
import Derived.Test.YticjlkommabcjaaPSx0
import Derived.Test.YticjlkommabcjaaPSx11
import Derived.Test.YticjlkommabcjaaUp
namespace Go.Proofs.Yticjlkommabcjaa.PS
open Go.RowKit Go.Proofs.YticjlkommabcjaaW.PrintWords Go.Proofs.YticjlkommabcjaaW.PrintLast Go.Proofs.YticjlkommabcjaaW.PrintMore
attribute [local go_sem] max2_int min2_int max_two min_two max_three min_three max_four min_four   -- for this text's walks alone
set_option linter.unusedVariables false
set_option linter.unusedSimpArgs false
set_option maxRecDepth 100000

/-! ### quadratref06_places: function 52 -/
mutual
def quadratref06_places.l0 : Nat → List Int → Int → Int → List Int → List Int → Option (List Int)
  | 0, _, _, _, _, _ => none
  | k + 1, x3, x4, Xj, Xf, Xg => if x4 < (Xf.length : Int) then (quadratref06_places.l1 k x3 x4 ([] : List Int) 0 Xj Xf Xg) else (some x3)
def quadratref06_places.l1 : Nat → List Int → Int → List Int → Int → Int → List Int → List Int → Option (List Int)
  | 0, _, _, _, _, _, _, _ => none
  | k + 1, x3, x4, x5, x6, Xj, Xf, Xg => if 0 ≤ x4 then (if x4 < (Xf.length : Int) then (if x6 < (rd Xf x4) then (quadratref06_places.l2 k x3 x4 x5 x6 0 Xj Xf Xg) else (quadratref06_places.l0 k x5 (wrap64 (x4 + 1)) Xj Xf Xg)) else (none)) else (none)
def quadratref06_places.l2 : Nat → List Int → Int → List Int → Int → Int → Int → List Int → List Int → Option (List Int)
  | 0, _, _, _, _, _, _, _, _ => none
  | k + 1, x3, x4, x5, x6, x7, Xj, Xf, Xg => if x7 < (x3.length : Int) then (if 0 ≤ x7 then (if 0 ≤ x4 then (if x4 < (Xg.length : Int) then (if x5.length < 17592186044416 then (quadratref06_places.l2 k x3 x4 (x5 ++ [wrap64 ((rd x3 x7) + (wrap64 (x6 * (rd Xg x4))))]) x6 (wrap64 (x7 + 1)) Xj Xf Xg) else (none)) else (none)) else (none)) else (none)) else (quadratref06_places.l1 k x3 x4 x5 (wrap64 (x6 + 1)) Xj Xf Xg)
end
def quadratref06_places.f (k : Nat) (a0_0 : Int) (Xc : List Int) (Xd : List Int) : Option (List Int) := (quadratref06_size.f k Xc).bind fun Xs => (if Xs = 0 then (some ([] : List Int)) else (quadratref06_places.l0 k (([a0_0] : List Int)) 0 a0_0 Xc Xd))
theorem quadratref06_places.mono_l : ∀ k, (∀ y0 y1 y2 y3 y4, LeO (quadratref06_places.l0 k y0 y1 y2 y3 y4) (quadratref06_places.l0 (k + 1) y0 y1 y2 y3 y4)) ∧ (∀ y0 y1 y2 y3 y4 y5 y6, LeO (quadratref06_places.l1 k y0 y1 y2 y3 y4 y5 y6) (quadratref06_places.l1 (k + 1) y0 y1 y2 y3 y4 y5 y6)) ∧ (∀ y0 y1 y2 y3 y4 y5 y6 y7, LeO (quadratref06_places.l2 k y0 y1 y2 y3 y4 y5 y6 y7) (quadratref06_places.l2 (k + 1) y0 y1 y2 y3 y4 y5 y6 y7))
  | 0 => ⟨fun _ _ _ _ _ r h => by simp [quadratref06_places.l0] at h, fun _ _ _ _ _ _ _ r h => by simp [quadratref06_places.l1] at h, fun _ _ _ _ _ _ _ _ r h => by simp [quadratref06_places.l2] at h⟩
  | k + 1 => by
    obtain ⟨ih0, ih1, ih2⟩ := quadratref06_places.mono_l k
    refine ⟨?_, ?_, ?_⟩
    · intro y0 y1 y2 y3 y4
      unfold quadratref06_places.l0
      repeat' first
      | (with_reducible exact ih0 _ _ _ _ _)
      | (with_reducible exact ih1 _ _ _ _ _ _ _)
      | (with_reducible exact ih2 _ _ _ _ _ _ _ _)
      | (with_reducible exact quadratref06_size.mono _ _)
      | (with_reducible exact LeO.refl _)
      | (with_reducible exact LeO.none _)
      | (with_reducible refine LeO.ite ?_ ?_)
      | (with_reducible refine LeO.bind ?_ (fun _ => ?_))
      | exact ih0 _ _ _ _ _
      | exact ih1 _ _ _ _ _ _ _
      | exact ih2 _ _ _ _ _ _ _ _
      | exact quadratref06_size.mono _ _
      | exact LeO.none _
      | refine LeO.ite ?_ ?_
      | refine LeO.bind ?_ (fun _ => ?_)
    · intro y0 y1 y2 y3 y4 y5 y6
      unfold quadratref06_places.l1
      repeat' first
      | (with_reducible exact ih0 _ _ _ _ _)
      | (with_reducible exact ih1 _ _ _ _ _ _ _)
      | (with_reducible exact ih2 _ _ _ _ _ _ _ _)
      | (with_reducible exact quadratref06_size.mono _ _)
      | (with_reducible exact LeO.refl _)
      | (with_reducible exact LeO.none _)
      | (with_reducible refine LeO.ite ?_ ?_)
      | (with_reducible refine LeO.bind ?_ (fun _ => ?_))
      | exact ih0 _ _ _ _ _
      | exact ih1 _ _ _ _ _ _ _
      | exact ih2 _ _ _ _ _ _ _ _
      | exact quadratref06_size.mono _ _
      | exact LeO.none _
      | refine LeO.ite ?_ ?_
      | refine LeO.bind ?_ (fun _ => ?_)
    · intro y0 y1 y2 y3 y4 y5 y6 y7
      unfold quadratref06_places.l2
      repeat' first
      | (with_reducible exact ih0 _ _ _ _ _)
      | (with_reducible exact ih1 _ _ _ _ _ _ _)
      | (with_reducible exact ih2 _ _ _ _ _ _ _ _)
      | (with_reducible exact quadratref06_size.mono _ _)
      | (with_reducible exact LeO.refl _)
      | (with_reducible exact LeO.none _)
      | (with_reducible refine LeO.ite ?_ ?_)
      | (with_reducible refine LeO.bind ?_ (fun _ => ?_))
      | exact ih0 _ _ _ _ _
      | exact ih1 _ _ _ _ _ _ _
      | exact ih2 _ _ _ _ _ _ _ _
      | exact quadratref06_size.mono _ _
      | exact LeO.none _
      | refine LeO.ite ?_ ?_
      | refine LeO.bind ?_ (fun _ => ?_)
theorem quadratref06_places.mono : ∀ a0 a1 a2 k, LeO (quadratref06_places.f k a0 a1 a2) (quadratref06_places.f (k + 1) a0 a1 a2) := by
  intro a0 a1 a2 k
  obtain ⟨ih0, ih1, ih2⟩ := quadratref06_places.mono_l k
  unfold quadratref06_places.f
  repeat' first
      | (with_reducible exact ih0 _ _ _ _ _)
      | (with_reducible exact ih1 _ _ _ _ _ _ _)
      | (with_reducible exact ih2 _ _ _ _ _ _ _ _)
      | (with_reducible exact quadratref06_size.mono _ _)
      | (with_reducible exact LeO.refl _)
      | (with_reducible exact LeO.none _)
      | (with_reducible refine LeO.ite ?_ ?_)
      | (with_reducible refine LeO.bind ?_ (fun _ => ?_))
      | exact ih0 _ _ _ _ _
      | exact ih1 _ _ _ _ _ _ _
      | exact ih2 _ _ _ _ _ _ _ _
      | exact quadratref06_size.mono _ _
      | exact LeO.none _
      | refine LeO.ite ?_ ?_
      | refine LeO.bind ?_ (fun _ => ?_)
def quadratref06_places.T14 : Bool × List (List Nat × List Nat) := (true, [([], []), ([], []), ([], []), ([1, 2], [1, 2]), ([3], [3]), ([], []), ([], []), ([6], [6]), ([], []), ([7, 8], [7, 8]), ([9], [9]), ([5, 10], [5, 10]), ([4, 11], [4, 11]), ([12], [12]), ([0, 13], [0, 13]), ([14, 14, 0, 1, 2, 3, 4, 5, 6, 7, 8, 9, 10, 11, 12, 13, 14], [0, 14])])
def quadratref06_places.B14 : List Nat := [0, 0, 0, 6, 14, 0, 0, 64, 0, 448, 960, 2016, 4094, 8190, 16383, 32767]
theorem quadratref06_places.tab14 : rtab .any (opsOf Try.f52 14) = quadratref06_places.T14 := by kernel_rfl
theorem quadratref06_places.bits14 : waitsOk quadratref06_places.T14.2 quadratref06_places.B14 = true := by kernel_rfl
set_option maxHeartbeats 8000000 in
set_option maxRecDepth 100000 in
theorem quadratref06_places.calls (k : Nat) (a0_0 : Int) (Xp : Option Addr) (Xk : Nat) (Xc : List Int) (Xq : Option Addr) (Xo : Nat) (Xd : List Int) (r : List Int) (w : World) (hr0_1 : Kd.C (Kd.int .i64) w Xp Xc.length Xc) (hc0_1 : Xc.length ≤ Xk) (hr0_2 : Kd.C (Kd.int .i64) w Xq Xd.length Xd) (hc0_2 : Xd.length ≤ Xo) (h : quadratref06_places.f k a0_0 Xc Xd = some r) :
    Calls Try.prog 52 #[.agg #[.int .i64 a0_0, .slice Xp Xc.length Xk, .slice Xq Xd.length Xo]] w fun e w' => ∃ v0_ : Value, e = .returned (v0_) ∧ Kd.R (Kd.int .i64) 3 w' w.heap.size (fun _ => True) v0_ r ∧ Below w.heap.size w w' := by
  have hu31 := Try.underlying31
  have XI := Aside0.mk hr0_1
  have X5 := Aside0.mk hc0_1
  clear hr0_1 hc0_1
  have Yb := Aside0.mk hr0_2
  have YB := Aside0.mk hc0_2
  clear hr0_2 hc0_2
  have HB := Aside0.mk (Below.refl w.heap.size w)
  have H : ((quadratref06_size.f k Xc).bind fun Xs => (if Xs = 0 then (some ([] : List Int)) else (quadratref06_places.l0 k (([a0_0] : List Int)) 0 a0_0 Xc Xd))) = some r := h
  clear h
  replace H := Option.bind_eq_some_iff.mp H
  obtain ⟨Xs, YC, H⟩ := H
  replace H : (if Xs = 0 then (some ([] : List Int)) else (quadratref06_places.l0 k (([a0_0] : List Int)) 0 a0_0 Xc Xd)) = some r := H
  have A2 := Aside0.mk YC
  clear YC
  by_cases c3 : Xs = 0
  case pos =>
   rw [if_pos c3] at H
   have XX : (Xs == 0) = true := beq_iff_eq.mpr c3
   have XY : (Xs != 0) = false := bne_eq_false_iff_eq.mpr c3
   clear c3
   obtain rfl := Option.some.inj H
   go_enter Try.func52, Try.ntmps52
   go_wp2_with (first | ((with_reducible refine gate_dst (N := 1) rfl ?_); refine box_event ?hg (N := 1) ?hd (cs := #[.int .i64 a0_0, .slice Xp Xc.length Xk, .slice Xq Xd.length Xo]) (t := 31) ?hr ?_; (case hd => rfl); (case hg => rfl); (case hr => first | (go_simp; done) | (go_simp; rfl)); intro Xb hg w4 hbox hb; have XJ := Aside0.mk (below_step (by exact upL HB.out) hb); have XK := Aside0.mk (hbox); have XL := Aside0.mk ((by rw [hg]; exact (below_size (by exact upL HB.out)) : w.heap.size ≤ Xb)); have XU := Aside0.mk ((by rw [hg]; exact (below_size (by exact upL HB.out)) : w.heap.size ≤ Xb)); clear HB; have HB := XJ; have Xa := XK; have Yc := XL; have Xi := XU; clear XJ XK XL XU; clear hb hbox hg; have Xv : w4.cell? ⟨Xb, 0, none⟩ = some (.int .i64 a0_0) := (blk_cell Xa.out 0).trans rfl; have Xw : w4.cell? ⟨Xb, 1, none⟩ = some (.slice Xp Xc.length Xk) := (blk_cell Xa.out 1).trans rfl; have Xx : w4.cell? ⟨Xb, 2, none⟩ = some (.slice Xq Xd.length Xo) := (blk_cell Xa.out 2).trans rfl; have Xy := blk_frozen Xa.out 0; have Xz := blk_frozen Xa.out 1; have XA := blk_frozen Xa.out 2) | ((with_reducible refine gate_callee (f := 47) rfl ?_); refine goesL_ (some 10) rfl rfl Try.func47 (by kernel_rfl) rfl #[.slice Xp Xc.length Xk] rfl (by (try simp only [List.map_toArray, List.map_cons, List.map_nil]); first | done | rfl | (simp only [List.length_drop, List.length_take]; rfl)) ?_; (with_reducible refine (quadratref06_size.calls k _ _ Xc Xs _ ?side1 ?side2 A2.out).mono ?_); (case side1 => repeat (first | exact (Kd.C_below XI.out HB.out) | (with_reducible refine Kd.C_alloc ?_ _) | (with_reducible refine Kd.C_drewN ?_ _) | (with_reducible refine Kd.C_drew ?_))); (case side2 => exact X5.out); rintro e w' ⟨rfl, ⟨nd, rfl⟩⟩; refine ⟨_, rfl, ?_⟩))
   go_ret
   exact ⟨_, by first | rfl | (simp [errW_none, errW_some] <;> rfl) | (simp [*, errW_none, errW_some] <;> rfl), by first | exact Kd.R_nil _ _ _ _ _ | exact Kd.N_nil _ _ _ _ _ | exact Kd.V_nil _ _ _ _ _ | exact Kd.Q_nil _ _ _ _ _ | exact Kd.S_nil _ _ _ _ _, by repeat (first | (with_reducible first | exact HB.out | apply upS | refine below_set ?_ Xi.out) | exact HB.out)⟩
  rw [if_neg c3] at H
  have XX : (Xs == 0) = false := beq_eq_false_iff_ne.mpr c3
  have XY : (Xs != 0) = true := bne_iff_ne.mpr c3
  obtain ⟨y225, hy225⟩ : ∃ y_ : List Int, y_ = (([a0_0] : List Int)) := ⟨_, rfl⟩
  replace H : (quadratref06_places.l0 k y225 0 a0_0 Xc Xd) = some r := by first | (rw [hy225]; with_reducible exact H) | (have X8 := (Option.bind_some _ _).symm.trans H; rw [hy225]; with_reducible exact X8) | (have X8 := (Option.bind_some _ _).symm.trans H; with_reducible exact X8) | with_reducible exact H | (rw [hy225]; exact H) | exact H
  have Ny225 := Aside0.mk hy225
  clear hy225
  have H' := Aside0.mk H
  clear H
  go_enter Try.func52, Try.ntmps52
  go_wp2_with (first | ((with_reducible refine gate_dst (N := 1) rfl ?_); refine box_event ?hg (N := 1) ?hd (cs := #[.int .i64 a0_0, .slice Xp Xc.length Xk, .slice Xq Xd.length Xo]) (t := 31) ?hr ?_; (case hd => rfl); (case hg => rfl); (case hr => first | (go_simp; done) | (go_simp; rfl)); intro Xb hg w6 hbox hb; have XJ := Aside0.mk (below_step (by exact upL HB.out) hb); have XK := Aside0.mk (hbox); have XL := Aside0.mk ((by rw [hg]; exact (below_size (by exact upL HB.out)) : w.heap.size ≤ Xb)); have XU := Aside0.mk ((by rw [hg]; exact (below_size (by exact upL HB.out)) : w.heap.size ≤ Xb)); clear HB; have HB := XJ; have Xa := XK; have Yc := XL; have Xi := XU; clear XJ XK XL XU; clear hb hbox hg; have XB : w6.cell? ⟨Xb, 0, none⟩ = some (.int .i64 a0_0) := (blk_cell Xa.out 0).trans rfl; have XC : w6.cell? ⟨Xb, 1, none⟩ = some (.slice Xp Xc.length Xk) := (blk_cell Xa.out 1).trans rfl; have XD : w6.cell? ⟨Xb, 2, none⟩ = some (.slice Xq Xd.length Xo) := (blk_cell Xa.out 2).trans rfl; have XE := blk_frozen Xa.out 0; have XF := blk_frozen Xa.out 1; have XG := blk_frozen Xa.out 2) | ((with_reducible refine gate_callee (f := 47) rfl ?_); refine goesL_ (some 10) rfl rfl Try.func47 (by kernel_rfl) rfl #[.slice Xp Xc.length Xk] rfl (by (try simp only [List.map_toArray, List.map_cons, List.map_nil]); first | done | rfl | (simp only [List.length_drop, List.length_take]; rfl)) ?_; (with_reducible refine (quadratref06_size.calls k _ _ Xc Xs _ ?side1 ?side2 A2.out).mono ?_); (case side1 => repeat (first | exact (Kd.C_below XI.out HB.out) | (with_reducible refine Kd.C_alloc ?_ _) | (with_reducible refine Kd.C_drewN ?_ _) | (with_reducible refine Kd.C_drew ?_))); (case side2 => exact X5.out); rintro e w' ⟨rfl, ⟨nd, rfl⟩⟩; refine ⟨_, rfl, ?_⟩) | ((with_reducible refine gate_dst (N := 14) rfl ?_); refine Kd.R_lit (Kd.int .i64) _ 3 ?hg (N := 14) ?hd (xs := ([a0_0] : List Int)) (inner := [.int .i64 a0_0]) (ok := fun _ => True) (okp := fun _ => True) ?hr ?hp (fun _ hk => hk) trivial (Below.refl _ _) (Nat.le_refl _) (by simp) ?_; (case hd => rfl); (case hg => rfl); (case hr => first | (go_simp; done) | (go_simp; rfl)); (case hp => exact (Reps.one (show Kd.M (Kd.int .i64) _ _ _ a0_0 [.int .i64 a0_0] from rfl) (Reps.none _ _))); intro v226 w8 ho9 hb hg_ hnew_; clear hg_ hnew_; (first | rw [← Ny225.out] at ho9 | (simp only [Int.reduceToNat] at ho9; rw [← Ny225.out] at ho9)); have XJ := Aside0.mk (Kd.R_lower ho9 (below_size (by repeat (first | (with_reducible first | exact HB.out | apply upS | refine below_set ?_ Xi.out) | exact HB.out)))); have XK := Aside0.mk (blk_below (g := Xb) (o := .cells #[.int .i64 a0_0, .slice Xp Xc.length Xk, .slice Xq Xd.length Xo] 31 (0, 0)) (by exact upB Xa.out) hb); have XL := Aside0.mk (below_step (by repeat (first | (with_reducible first | exact HB.out | apply upS | refine below_set ?_ Xi.out) | exact HB.out)) hb); clear Xa; clear HB; have Yd := XJ; have Xa := XK; have HB := XL; clear XJ XK XL; clear hb ho9))
  go_loopg [3, 4] k (fun kq v3 v4 w' => ∃ (Xn : List Int) (Xe : Int), v4 = .int .i64 Xe ∧ Aside0 (quadratref06_places.l0 kq Xn Xe a0_0 Xc Xd = some r) ∧ Aside0 (kq ≤ k) ∧ Aside0 (Kd.R (Kd.int .i64) 3 w' w.heap.size (fun _ => True) v3 Xn) ∧ Aside0 (w'.heap[Xb]? = some (.cells #[.int .i64 a0_0, (.slice Xp Xc.length Xk), (.slice Xq Xd.length Xo)] 31 (0, 0))) ∧ Aside0 (Below w.heap.size w w'))
  case atStart => exact ⟨(y225), (0), (by first | rfl | (simp; done) | (simp [*]; done)), H', ⟨Nat.le_refl _⟩, ⟨by (with_reducible repeat apply upG); exact Yd.out⟩, ⟨by exact upB Xa.out⟩, ⟨by repeat (first | (with_reducible first | exact HB.out | apply upS | refine below_set ?_ Xi.out) | exact HB.out)⟩⟩
  clear H'
  try clear p2
  try clear c3
  try clear XX
  try clear XY
  try clear c4
  try clear c5
  try clear Xv
  try clear Xw
  try clear Xx
  try clear XB
  try clear XC
  try clear XD
  try clear Xy
  try clear Xz
  try clear XA
  try clear XE
  try clear XF
  try clear XG
  obtain ⟨Xn, Xe, rfl, HA, HK1, Xl, Xa, HB⟩ := hrel
  cases gk with
  | zero => exact absurd HA.out (by simp [quadratref06_places.l0])
  | succ k1 =>
   have H := HA.out
   clear HA
   simp only [quadratref06_places.l0] at H
   by_cases X6 : Xe < (Xc.length : Int)
   case neg =>
    rw [if_neg X6] at H
    have XV : decide (Xe < (Xc.length : Int)) = false := decide_eq_false X6
    clear X6
    obtain rfl := Option.some.inj H
    have Yk : wr.cell? ⟨Xb, 0, none⟩ = some (.int .i64 a0_0) := (blk_cell Xa.out 0).trans rfl
    have Yl : wr.cell? ⟨Xb, 1, none⟩ = some (.slice Xp Xc.length Xk) := (blk_cell Xa.out 1).trans rfl
    have Ym : wr.cell? ⟨Xb, 2, none⟩ = some (.slice Xq Xd.length Xo) := (blk_cell Xa.out 2).trans rfl
    have Yn := blk_frozen Xa.out 0
    have Yo := blk_frozen Xa.out 1
    have Yp := blk_frozen Xa.out 2
    go_wp2
    go_ret
    exact ⟨_, by first | rfl | (simp [errW_none, errW_some] <;> rfl) | (simp [*, errW_none, errW_some] <;> rfl), by exact upR Xl.out, by repeat (first | (with_reducible first | exact HB.out | apply upS | refine below_set ?_ Xi.out) | exact HB.out)⟩
   rw [if_pos X6] at H
   have XV : decide (Xe < (Xc.length : Int)) = true := decide_eq_true X6
   clear X6
   have H' := Aside0.mk H
   clear H
   have XM : wr.cell? ⟨Xb, 0, none⟩ = some (.int .i64 a0_0) := (blk_cell Xa.out 0).trans rfl
   have XN : wr.cell? ⟨Xb, 1, none⟩ = some (.slice Xp Xc.length Xk) := (blk_cell Xa.out 1).trans rfl
   have XO : wr.cell? ⟨Xb, 2, none⟩ = some (.slice Xq Xd.length Xo) := (blk_cell Xa.out 2).trans rfl
   have XP := blk_frozen Xa.out 0
   have XQ := blk_frozen Xa.out 1
   have XR := blk_frozen Xa.out 2
   go_wp2
   go_loopg [5, 6] k1 (fun kq v5 v6 w' => ∃ (XW : List Int) (Xt : Int), v6 = .int .i64 Xt ∧ Aside0 (quadratref06_places.l1 kq Xn Xe XW Xt a0_0 Xc Xd = some r) ∧ Aside0 (kq ≤ k1) ∧ Aside0 (Kd.R (Kd.int .i64) 3 w' w.heap.size (fun k_ => some k_ ≠ (v5 : Value).ownBlock) u3 Xn) ∧ Aside0 (Kd.R (Kd.int .i64) 3 w' w.heap.size (fun k_ => some k_ ≠ (u3 : Value).ownBlock) v5 XW) ∧ Aside0 (w'.heap[Xb]? = some (.cells #[.int .i64 a0_0, (.slice Xp Xc.length Xk), (.slice Xq Xd.length Xo)] 31 (0, 0))) ∧ Aside0 (Below w.heap.size w w'))
   case atStart => exact ⟨(([] : List Int)), (0), (by first | rfl | (simp; done) | (simp [*]; done)), H', ⟨Nat.le_refl _⟩, ⟨by (with_reducible repeat apply upG); exact Kd.R_mono Xl.out (fun _ hk => (by simp [Value.ownBlock]))⟩, ⟨by first | exact Kd.R_nil _ _ _ _ _ | exact Kd.N_nil _ _ _ _ _ | exact Kd.V_nil _ _ _ _ _ | exact Kd.Q_nil _ _ _ _ _ | exact Kd.S_nil _ _ _ _ _⟩, ⟨by exact upB Xa.out⟩, ⟨by repeat (first | (with_reducible first | exact HB.out | apply upS | refine below_set ?_ Xi.out) | exact HB.out)⟩⟩
   clear H'
   try clear c1
   try clear p2
   try clear c3
   try clear XX
   try clear XY
   try clear c4
   try clear c5
   try clear X6
   try clear XV
   try clear XM
   try clear XN
   try clear XO
   try clear Xv
   try clear Xw
   try clear Xx
   try clear XB
   try clear XC
   try clear XD
   try clear XP
   try clear XQ
   try clear XR
   try clear Xy
   try clear Xz
   try clear XA
   try clear XE
   try clear XF
   try clear XG
   try clear p2
   obtain ⟨XW, Xt, rfl, HA, HK2, Xl, Xu, Xa, HB⟩ := hrel
   cases gk with
   | zero => exact absurd HA.out (by simp [quadratref06_places.l1])
   | succ k2 =>
    have H := HA.out
    clear HA
    simp only [quadratref06_places.l1] at H
    by_cases Ye : 0 ≤ Xe
    case neg =>
     rw [if_neg Ye] at H
     exact absurd H (by simp)
    rw [if_pos Ye] at H
    have Yf : decide (0 ≤ Xe) = true := decide_eq_true Ye
    clear Ye
    by_cases Yg : Xe < (Xc.length : Int)
    case neg =>
     rw [if_neg Yg] at H
     exact absurd H (by simp)
    rw [if_pos Yg] at H
    have Yh : decide (Xe < (Xc.length : Int)) = true := decide_eq_true Yg
    clear Yg
    by_cases X9 : Xt < (rd Xc Xe)
    case neg =>
     rw [if_neg X9] at H
     have X7 : decide (Xt < (rd Xc Xe)) = false := decide_eq_false X9
     clear X9
     have H' := Aside0.mk H
     clear H
     have Yq : wr.cell? ⟨Xb, 0, none⟩ = some (.int .i64 a0_0) := (blk_cell Xa.out 0).trans rfl
     have Yr : wr.cell? ⟨Xb, 1, none⟩ = some (.slice Xp Xc.length Xk) := (blk_cell Xa.out 1).trans rfl
     have Ys : wr.cell? ⟨Xb, 2, none⟩ = some (.slice Xq Xd.length Xo) := (blk_cell Xa.out 2).trans rfl
     have Yt := blk_frozen Xa.out 0
     have Yu := blk_frozen Xa.out 1
     have Yv := blk_frozen Xa.out 2
     have p228 : 0 ≤ (Xe : Int) := of_decide_eq_true (by first | (with_reducible assumption) | assumption)
     have q228 : Xe < (Xc.length : Int) := of_decide_eq_true (by first | (with_reducible assumption) | assumption)
     obtain ⟨ad228, e228, Xh⟩ := Kd.at_int XI.out Xe p228 q228
     cases e228
     replace Xh := (HB.out.cell (World.block_lt_of_cell? w _ Xh)).trans Xh
     replace p228 := eq_true p228
     replace q228 := eq_true q228
     go_wp2
     go_roundg k2
     case measure => have := HK1.out; have := HK2.out; omega
     case rel => exact ⟨(XW), (wrap64 (Xe + 1)), (by first | rfl | (simp; done) | (simp [*]; done)), H', ⟨by have := HK1.out; have := HK2.out; omega⟩, ⟨by (with_reducible repeat apply upG); exact Kd.R_mono Xu.out (fun _ hk => trivial)⟩, ⟨by exact upB Xa.out⟩, ⟨by repeat (first | (with_reducible first | exact HB.out | apply upS | refine below_set ?_ Xi.out) | exact HB.out)⟩⟩
    rw [if_pos X9] at H
    have X7 : decide (Xt < (rd Xc Xe)) = true := decide_eq_true X9
    clear X9
    have H' := Aside0.mk H
    clear H
    have XZ : wr.cell? ⟨Xb, 0, none⟩ = some (.int .i64 a0_0) := (blk_cell Xa.out 0).trans rfl
    have X0 : wr.cell? ⟨Xb, 1, none⟩ = some (.slice Xp Xc.length Xk) := (blk_cell Xa.out 1).trans rfl
    have X1 : wr.cell? ⟨Xb, 2, none⟩ = some (.slice Xq Xd.length Xo) := (blk_cell Xa.out 2).trans rfl
    have X2 := blk_frozen Xa.out 0
    have X3 := blk_frozen Xa.out 1
    have X4 := blk_frozen Xa.out 2
    have p228 : 0 ≤ (Xe : Int) := of_decide_eq_true (by first | (with_reducible assumption) | assumption)
    have q228 : Xe < (Xc.length : Int) := of_decide_eq_true (by first | (with_reducible assumption) | assumption)
    obtain ⟨ad228, e228, Xh⟩ := Kd.at_int XI.out Xe p228 q228
    cases e228
    replace Xh := (HB.out.cell (World.block_lt_of_cell? w _ Xh)).trans Xh
    replace p228 := eq_true p228
    replace q228 := eq_true q228
    go_wp2
    go_loopg [5, 7] k2 (fun kq v5 v7 w' => ∃ (XH : List Int) (Xm : Int), v7 = .int .i64 Xm ∧ Aside0 (quadratref06_places.l2 kq Xn Xe XH Xt Xm a0_0 Xc Xd = some r) ∧ Aside0 (kq ≤ k2) ∧ Aside0 (Kd.R (Kd.int .i64) 3 w' w.heap.size (fun k_ => some k_ ≠ (v5 : Value).ownBlock) u3 Xn) ∧ Aside0 (Kd.R (Kd.int .i64) 3 w' w.heap.size (fun k_ => some k_ ≠ (u3 : Value).ownBlock) v5 XH) ∧ Aside0 (w'.heap[Xb]? = some (.cells #[.int .i64 a0_0, (.slice (some ad228) Xc.length Xk), (.slice Xq Xd.length Xo)] 31 (0, 0))) ∧ Aside0 (Below w.heap.size w w'))
    case atStart => exact ⟨(XW), (0), (by first | rfl | (simp; done) | (simp [*]; done)), H', ⟨Nat.le_refl _⟩, ⟨by exact upR Xl.out⟩, ⟨by exact upR Xu.out⟩, ⟨by exact upB Xa.out⟩, ⟨by repeat (first | (with_reducible first | exact HB.out | apply upS | refine below_set ?_ Xi.out) | exact HB.out)⟩⟩
    clear H'
    try clear c1
    try clear p2
    try clear q2
    try clear YJ
    try clear c3
    try clear XX
    try clear XY
    try clear c4
    try clear c5
    try clear X6
    try clear XV
    try clear Ye
    try clear Yf
    try clear Yg
    try clear Yh
    try clear X9
    try clear X7
    try clear XM
    try clear XN
    try clear XO
    try clear XZ
    try clear X0
    try clear X1
    try clear Xv
    try clear Xw
    try clear Xx
    try clear XB
    try clear XC
    try clear XD
    try clear XP
    try clear XQ
    try clear XR
    try clear X2
    try clear X3
    try clear X4
    try clear Xy
    try clear Xz
    try clear XA
    try clear XE
    try clear XF
    try clear XG
    try clear Xh
    try clear p2
    try clear p228
    try clear q228
    obtain ⟨XH, Xm, rfl, HA, HK3, Xl, Xu, Xa, HB⟩ := hrel
    cases gk with
    | zero => exact absurd HA.out (by simp [quadratref06_places.l2])
    | succ k3 =>
     have H := HA.out
     clear HA
     simp only [quadratref06_places.l2] at H
     by_cases Ya : Xm < (Xn.length : Int)
     case neg =>
      rw [if_neg Ya] at H
      have Yi : decide (Xm < (Xn.length : Int)) = false := decide_eq_false Ya
      clear Ya
      have H' := Aside0.mk H
      clear H
      obtain ⟨YG, YH, eo24⟩ := Kd.R_slice Xl.out
      subst eo24
      go_wp2
      go_roundg k3
      case measure => have := HK1.out; have := HK2.out; have := HK3.out; omega
      case rel => exact ⟨(XH), (wrap64 (Xt + 1)), (by first | rfl | (simp; done) | (simp [*]; done)), H', ⟨by have := HK1.out; have := HK2.out; have := HK3.out; omega⟩, ⟨by exact upR Xl.out⟩, ⟨by exact upR Xu.out⟩, ⟨by exact upB Xa.out⟩, ⟨by repeat (first | (with_reducible first | exact HB.out | apply upS | refine below_set ?_ Xi.out) | exact HB.out)⟩⟩
     rw [if_pos Ya] at H
     have Yi : decide (Xm < (Xn.length : Int)) = true := decide_eq_true Ya
     clear Ya
     by_cases Yw : 0 ≤ Xm
     case neg =>
      rw [if_neg Yw] at H
      exact absurd H (by simp)
     rw [if_pos Yw] at H
     have YD : decide (0 ≤ Xm) = true := decide_eq_true Yw
     clear Yw
     by_cases Yx : 0 ≤ Xe
     case neg =>
      rw [if_neg Yx] at H
      exact absurd H (by simp)
     rw [if_pos Yx] at H
     have YE : decide (0 ≤ Xe) = true := decide_eq_true Yx
     clear Yx
     by_cases Yy : Xe < (Xd.length : Int)
     case neg =>
      rw [if_neg Yy] at H
      exact absurd H (by simp)
     rw [if_pos Yy] at H
     have YF : decide (Xe < (Xd.length : Int)) = true := decide_eq_true Yy
     clear Yy
     by_cases Yz : XH.length < 17592186044416
     case neg =>
      rw [if_neg Yz] at H
      exact absurd H (by simp)
     rw [if_pos Yz] at H
     have LMc20 := Aside0.mk Yz
     clear Yz
     obtain ⟨y231, hy231⟩ : ∃ y_ : List Int, y_ = (XH ++ [wrap64 ((rd Xn Xm) + (wrap64 (Xt * (rd Xd Xe))))]) := ⟨_, rfl⟩
     replace H : (quadratref06_places.l2 k3 Xn Xe y231 Xt (wrap64 (Xm + 1)) a0_0 Xc Xd) = some r := by first | (rw [hy231]; with_reducible exact H) | (have X8 := (Option.bind_some _ _).symm.trans H; rw [hy231]; with_reducible exact X8) | (have X8 := (Option.bind_some _ _).symm.trans H; with_reducible exact X8) | with_reducible exact H | (rw [hy231]; exact H) | exact H
     have Ny231 := Aside0.mk hy231
     clear hy231
     have H' := Aside0.mk H
     clear H
     obtain ⟨YI, YA, eo21⟩ := Kd.R_slice Xl.out
     subst eo21
     try go_wp2
     have XJ := Aside0.mk (Kd.R_drew Xl.out)
     have XK := Aside0.mk (Kd.R_drew Xu.out)
     have XL := Aside0.mk (blk_drew Xa.out)
     have XU := Aside0.mk (below_drew1 HB.out)
     clear Xl
     clear Xu
     clear Xa
     clear HB
     have Xl := XJ
     have Xu := XK
     have Xa := XL
     have HB := XU
     clear XJ XK XL XU
     have p229 : 0 ≤ (Xm : Int) := of_decide_eq_true (by first | (with_reducible assumption) | assumption)
     have q229 : Xm < (Xn.length : Int) := of_decide_eq_true (by first | (with_reducible assumption) | assumption)
     obtain ⟨ad229, e229, XS⟩ := Kd.at_int (Kd.R_reads' Xl.out).2.2 Xm p229 q229
     cases e229
     replace p229 := eq_true p229
     replace q229 := eq_true q229
     have p230 : 0 ≤ (Xe : Int) := of_decide_eq_true (by first | (with_reducible assumption) | assumption)
     have q230 : Xe < (Xd.length : Int) := of_decide_eq_true (by first | (with_reducible assumption) | assumption)
     obtain ⟨ad230, e230, Xr⟩ := Kd.at_int Yb.out Xe p230 q230
     have XT := Xr
     cases e230
     replace Xr := (HB.out.cell (World.block_lt_of_cell? w _ Xr)).trans Xr
     replace p230 := eq_true p230
     replace q230 := eq_true q230
     refine start_ (n := 16) (S := fun w' => w'.cell? ⟨Xb, 0, none⟩ = some (.int .i64 a0_0) ∧ w'.cell? ⟨Xb, 1, none⟩ = some (.slice (some ad228) Xc.length Xk) ∧ w'.cell? ⟨Xb, 2, none⟩ = some (.slice (some ad230) Xd.length Xo) ∧ w'.cell? (ad229.add (Xm).toNat) = some (.int .i64 (rd Xn Xm)) ∧ w'.cell? (ad230.add (Xe).toNat) = some (.int .i64 (rd Xd Xe))) (ds := [13, 14]) #[false, false, false, false, false, false, false, false, false, false, false, false, false, false, false, false] (by kernel_rfl) rfl rfl ⟨(blk_cell Xa.out 0).trans rfl, (blk_cell Xa.out 1).trans rfl, (blk_cell Xa.out 2).trans rfl, XS, ((HB.out.cell (World.block_lt_of_cell? w _ XT)).trans XT)⟩ (fun hHeld => ?_); refine with_tabW quadratref06_places.tab14 quadratref06_places.bits14 (fun HT_ HW_ => ?_)
     generalize wr.drew = w22 at Xl Xu Xa HB XS Xr hHeld ⊢
     refine pure_ (i := 0) (N := some 37) (v := ?_) (a' := ?_) #[true, false, false, false, false, false, false, false, false, false, false, false, false, false, false, false] rfl rfl (any_of HT_.out (by kernel_rfl)) (fun _ _ _ h => h) (Or.inl ⟨by rfl, ?_⟩) ?_ ?_
     rotate_left
     · intro w'; go_simp; with_reducible rfl
     rotate_left
     · simp only [Act.put, List.setIfInBounds_toArray, List.set_cons_zero, List.set_cons_succ, i64_w, i32_w]; rfl
     refine pure_ (i := 1) (N := some 38) (v := ?_) (a' := ?_) #[true, true, false, false, false, false, false, false, false, false, false, false, false, false, false, false] rfl rfl (any_of HT_.out (by kernel_rfl)) (fun _ _ _ h => h) (Or.inl ⟨by rfl, ?_⟩) ?_ ?_
     rotate_left
     · intro w'; go_simp; with_reducible rfl
     rotate_left
     · simp only [Act.put, List.setIfInBounds_toArray, List.set_cons_zero, List.set_cons_succ, i64_w, i32_w]; rfl
     refine pure_ (i := 2) (N := some 39) (v := ?_) (a' := ?_) #[true, true, true, false, false, false, false, false, false, false, false, false, false, false, false, false] rfl rfl (any_of HT_.out (by kernel_rfl)) (fun _ _ _ h => h) (Or.inl ⟨by rfl, ?_⟩) ?_ ?_
     rotate_left
     · intro w'; go_simp; with_reducible rfl
     rotate_left
     · simp only [Act.put, List.setIfInBounds_toArray, List.set_cons_zero, List.set_cons_succ, i64_w, i32_w]; rfl
     refine pure_ (i := 3) (N := some 40) (v := ?_) (a' := ?_) #[true, true, true, true, false, false, false, false, false, false, false, false, false, false, false, false] rfl rfl (any_of HT_.out (by kernel_rfl)) (fun _ _ _ h => h) (Or.inl ⟨by rfl, ?_⟩) ?_ ?_
     rotate_left
     · intro w'; go_simp; with_reducible rfl
     rotate_left
     · simp only [Act.put, List.setIfInBounds_toArray, List.set_cons_zero, List.set_cons_succ, i64_w, i32_w]; rfl
     refine pure_ (i := 5) (N := some 42) (v := ?_) (a' := ?_) #[true, true, true, true, false, true, false, false, false, false, false, false, false, false, false, false] rfl rfl (any_of HT_.out (by kernel_rfl)) (fun _ _ _ h => h) (Or.inl ⟨by rfl, ?_⟩) ?_ ?_
     rotate_left
     · intro w'; go_simp; with_reducible rfl
     rotate_left
     · simp only [Act.put, List.setIfInBounds_toArray, List.set_cons_zero, List.set_cons_succ, i64_w, i32_w]; rfl
     refine pure_ (i := 6) (N := some 43) (v := ?_) (a' := ?_) #[true, true, true, true, false, true, true, false, false, false, false, false, false, false, false, false] rfl rfl (any_of HT_.out (by kernel_rfl)) (fun _ _ _ h => h) (Or.inl ⟨by rfl, ?_⟩) ?_ ?_
     rotate_left
     · intro w'; go_simp; with_reducible rfl
     rotate_left
     · simp only [Act.put, List.setIfInBounds_toArray, List.set_cons_zero, List.set_cons_succ, i64_w, i32_w]; rfl
     refine pure_ (i := 8) (N := some 45) (v := ?_) (a' := ?_) #[true, true, true, true, false, true, true, false, true, false, false, false, false, false, false, false] rfl rfl (any_of HT_.out (by kernel_rfl)) (fun _ _ _ h => h) (Or.inl ⟨by rfl, ?_⟩) ?_ ?_
     rotate_left
     · intro w'; go_simp; with_reducible rfl
     rotate_left
     · simp only [Act.put, List.setIfInBounds_toArray, List.set_cons_zero, List.set_cons_succ, i64_w, i32_w]; rfl
     refine take_ (i := 4) (N := some 41) (v := ?_) (a' := ?_) #[true, true, true, true, true, true, true, false, true, false, false, false, false, false, false, false] rfl rfl (take_ofW HT_.out HW_.out (by kernel_rfl)) (fun _ _ _ h => h) (Or.inl ⟨by rfl, ?_⟩) hHeld ?_ ?_
     rotate_left
     · rintro w' ⟨s0, s1, s2, s3, s4⟩
       go_simp
       with_reducible rfl
     rotate_left
     · simp only [Act.put, List.setIfInBounds_toArray, List.set_cons_zero, List.set_cons_succ, i64_w, i32_w]; rfl
     refine take_ (i := 7) (N := some 44) (v := ?_) (a' := ?_) #[true, true, true, true, true, true, true, true, true, false, false, false, false, false, false, false] rfl rfl (take_ofW HT_.out HW_.out (by kernel_rfl)) (fun _ _ _ h => h) (Or.inl ⟨by rfl, ?_⟩) hHeld ?_ ?_
     rotate_left
     · rintro w' ⟨s0, s1, s2, s3, s4⟩
       go_simp
       with_reducible rfl
     rotate_left
     · simp only [Act.put, List.setIfInBounds_toArray, List.set_cons_zero, List.set_cons_succ, i64_w, i32_w]; rfl
     refine pure_ (i := 9) (N := some 46) (v := ?_) (a' := ?_) #[true, true, true, true, true, true, true, true, true, true, false, false, false, false, false, false] rfl rfl (any_of HT_.out (by kernel_rfl)) (fun _ _ _ h => h) (Or.inl ⟨by rfl, ?_⟩) ?_ ?_
     rotate_left
     · intro w'; go_simp; with_reducible rfl
     rotate_left
     · simp only [Act.put, List.setIfInBounds_toArray, List.set_cons_zero, List.set_cons_succ, i64_w, i32_w]; rfl
     refine take_ (i := 10) (N := some 47) (v := ?_) (a' := ?_) #[true, true, true, true, true, true, true, true, true, true, true, false, false, false, false, false] rfl rfl (take_ofW HT_.out HW_.out (by kernel_rfl)) (fun _ _ _ h => h) (Or.inl ⟨by rfl, ?_⟩) hHeld ?_ ?_
     rotate_left
     · rintro w' ⟨s0, s1, s2, s3, s4⟩
       go_simp
       with_reducible rfl
     rotate_left
     · simp only [Act.put, List.setIfInBounds_toArray, List.set_cons_zero, List.set_cons_succ, i64_w, i32_w]; rfl
     refine pure_ (i := 11) (N := some 48) (v := ?_) (a' := ?_) #[true, true, true, true, true, true, true, true, true, true, true, true, false, false, false, false] rfl rfl (any_of HT_.out (by kernel_rfl)) (fun _ _ _ h => h) (Or.inl ⟨by rfl, ?_⟩) ?_ ?_
     rotate_left
     · intro w'; go_simp; with_reducible rfl
     rotate_left
     · simp only [Act.put, List.setIfInBounds_toArray, List.set_cons_zero, List.set_cons_succ, i64_w, i32_w]; rfl
     refine pure_ (i := 12) (N := some 49) (v := ?_) (a' := ?_) #[true, true, true, true, true, true, true, true, true, true, true, true, true, false, false, false] rfl rfl (any_of HT_.out (by kernel_rfl)) (fun _ _ _ h => h) (Or.inl ⟨by rfl, ?_⟩) ?_ ?_
     rotate_left
     · intro w'; go_simp; with_reducible rfl
     rotate_left
     · simp only [Act.put, List.setIfInBounds_toArray, List.set_cons_zero, List.set_cons_succ, i64_w, i32_w]; rfl
     refine last_ (i := 13) (N := some 50) #[true, true, true, true, true, true, true, true, true, true, true, true, true, true, false, false] rfl rfl (one_of HT_.out (by kernel_rfl)) (by decide) (fun K hK => ?_)
     refine value_ (w1 := ?_) (v := ?_) (by rfl) rfl ?_ ?_
     rotate_left 2
     · go_simp
       constructor
       · rfl
       rfl
     refine hK.out _ _ ?_
     clear hK K
     refine norm_ (a' := ?_) ?_ ?_
     rotate_left
     · show Act.put _ (some 50) _ = _
       simp only [Act.put, List.setIfInBounds_toArray, List.set_cons_zero, List.set_cons_succ, i64_w, i32_w]
       rfl
     refine last_ (i := 14) (N := some 51) #[true, true, true, true, true, true, true, true, true, true, true, true, true, true, true, false] rfl rfl (one_of HT_.out (by kernel_rfl)) (by decide) (fun K hK => ?_)
     refine Kd.R_append_step (Kd.int .i64) (w0 := w) w.heap.size (by rfl) (.tmp 37) (.tmp 50) 29 3 (.int .i64 0) 8 rfl Try.underlying29 info3 rfl (by decide) (by omega) u5 XH (wrap64 ((rd Xn Xm) + (wrap64 (Xt * (rd Xd Xe))))) [.int .i64 (wrap64 ((rd Xn Xm) + (wrap64 (Xt * (rd Xd Xe)))))] (fun k_ => some k_ ≠ (.slice (some ad229) Xn.length YA : Value).ownBlock) (fun _ => False) rfl rfl ?aP (fun _ hk => hk.elim) ?aF ?aO ?aB ?aS ?aL ?_
     (case aP => exact rfl)
     (case aB => exact (by repeat (first | (with_reducible first | exact HB.out | apply upS | refine below_set ?_ Xi.out) | exact HB.out)))
     (case aF => exact (fun k_ hk => Kd.fresh' (Kd.R_lt (by exact upR Xl.out)) k_ hk))
     (case aO => exact (by exact upR Xu.out))
     (case aS => exact (below_size (by repeat (first | (with_reducible first | exact HB.out | apply upS | refine below_set ?_ Xi.out) | exact HB.out))))
     (case aL => have := LMc20.out; omega)
     intro v232 w23 ho hb hg hat
     rw [← Ny231.out] at ho
     have XJ := Aside0.mk (Kd.R_after (ok := (fun _ => True)) (by (with_reducible repeat apply upG); exact Kd.R_mono Xl.out (fun _ hk => ⟨trivial, hk⟩)) hg hat)
     have XK := Aside0.mk (blk_grown (g := Xb) (o := .cells #[.int .i64 a0_0, .slice (some ad228) Xc.length Xk, .slice (some ad230) Xd.length Xo] 31 (0, 0)) (by exact upB Xa.out) hg (Kd.R_ne Xu.out Xa.out (by decide)))
     have XL := Aside0.mk (hb)
     have XU := Aside0.mk (ho)
     clear Xl
     clear Xa
     clear HB
     clear Xu
     have Xl := XJ
     have Xa := XK
     have HB := XL
     have Yj := XU
     clear XJ XK XL XU
     clear ho hb hg hat
     refine hK.out _ _ ?_
     clear hK K
     refine norm_ (a' := ?_) ?_ ?_
     rotate_left
     · show Act.put _ (some 51) _ = _
       simp only [Act.put, List.setIfInBounds_toArray, List.set_cons_zero, List.set_cons_succ, i64_w, i32_w]
       rfl
     refine pure_ (i := 15) (N := some 5) (v := ?_) (a' := ?_) #[true, true, true, true, true, true, true, true, true, true, true, true, true, true, true, true] rfl rfl (any_of HT_.out (by kernel_rfl)) (fun _ _ _ h => h) (Or.inl ⟨by rfl, ?_⟩) ?_ ?_
     rotate_left
     · intro w'; go_simp; with_reducible rfl
     rotate_left
     · simp only [Act.put, List.setIfInBounds_toArray, List.set_cons_zero, List.set_cons_succ, i64_w, i32_w]; rfl
     refine done_ (done_of HT_.out (by kernel_rfl)) ?_
     try go_wp2
     go_roundg k3
     case measure => have := HK1.out; have := HK2.out; have := HK3.out; omega
     case rel => exact ⟨(y231), (wrap64 (Xm + 1)), (by first | rfl | (simp; done) | (simp [*]; done)), H', ⟨by have := HK1.out; have := HK2.out; have := HK3.out; omega⟩, ⟨by (with_reducible repeat apply upG); exact Kd.R_mono Xl.out (fun _ hk => hk.2)⟩, ⟨by (with_reducible repeat apply upG); exact Yj.out⟩, ⟨by exact upB Xa.out⟩, ⟨by repeat (first | (with_reducible first | exact HB.out | apply upS | refine below_set ?_ Xi.out) | exact HB.out)⟩⟩

end Go.Proofs.Yticjlkommabcjaa.PS
