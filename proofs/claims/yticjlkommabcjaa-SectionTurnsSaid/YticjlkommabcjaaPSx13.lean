-- Printed by wip/qprint.py of this repository, over the kit's print, out of the translation. Not trusted: Lean checks it.
import Derived.Test.YticjlkommabcjaaPSx0
import Derived.Test.YticjlkommabcjaaPSx1
import Derived.Test.YticjlkommabcjaaPSx11
import Derived.Test.YticjlkommabcjaaPSx12
import Derived.Test.YticjlkommabcjaaUp
namespace Go.Proofs.Yticjlkommabcjaa.PS
open Go.RowKit Go.Proofs.YticjlkommabcjaaW.PrintWords Go.Proofs.YticjlkommabcjaaW.PrintLast Go.Proofs.YticjlkommabcjaaW.PrintMore
attribute [local go_sem] max2_int min2_int max_two min_two max_three min_three max_four min_four   -- for this text's walks alone
set_option linter.unusedVariables false
set_option linter.unusedSimpArgs false
set_option maxRecDepth 100000

/-! ### quadratref06_Valid: function 24 -/
mutual
def quadratref06_Valid.j0 : Nat → Bool → Int → List Int → List Int → Option (Bool)
  | 0, _, _, _, _ => none
  | k + 1, YD, Xo, Xp, Xj => if YD = true then (some false) else (quadratref06_Valid.l0 k 0 Xo Xp Xj)
def quadratref06_Valid.l0 : Nat → Int → Int → List Int → List Int → Option (Bool)
  | 0, _, _, _, _ => none
  | k + 1, x3, Xo, Xp, Xj => if x3 < (Xj.length : Int) then (if 0 ≤ x3 then ((quadratref06_near.f (rd Xj x3)).bind fun XO => (if XO = true then (quadratref06_Valid.l0 k (wrap64 (x3 + 1)) Xo Xp Xj) else (some false))) else (none)) else ((quadratref06_places.f k Xo Xp Xj).bind fun Xi => (quadratref06_Valid.l1 k Xi 0))
def quadratref06_Valid.l1 : Nat → List Int → Int → Option (Bool)
  | 0, _, _ => none
  | k + 1, x4, x5 => if x5 < (x4.length : Int) then (if 0 ≤ x5 then (if (rd x4 x5) < 0 then (some false) else (if (rd x4 x5) > 2147483648 then (some false) else (quadratref06_Valid.l1 k x4 (wrap64 (x5 + 1))))) else (none)) else (some true)
end
def quadratref06_Valid.f (k : Nat) (a0_0 : Int) (Xc : List Int) (Xb : List Int) : Option (Bool) := if a0_0 < 0 then (quadratref06_Valid.j0 k true a0_0 Xc Xb) else (if (Xb.length : Int) = (Xc.length : Int) then ((quadratref06_size.f k Xc).bind fun Xs => (quadratref06_Valid.j0 k (decide (Xs < 0)) a0_0 Xc Xb)) else (quadratref06_Valid.j0 k true a0_0 Xc Xb))
theorem quadratref06_Valid.mono_l : ∀ k, (∀ y0 y1 y2 y3, LeO (quadratref06_Valid.j0 k y0 y1 y2 y3) (quadratref06_Valid.j0 (k + 1) y0 y1 y2 y3)) ∧ (∀ y0 y1 y2 y3, LeO (quadratref06_Valid.l0 k y0 y1 y2 y3) (quadratref06_Valid.l0 (k + 1) y0 y1 y2 y3)) ∧ (∀ y0 y1, LeO (quadratref06_Valid.l1 k y0 y1) (quadratref06_Valid.l1 (k + 1) y0 y1))
  | 0 => ⟨fun _ _ _ _ r h => by simp [quadratref06_Valid.j0] at h, fun _ _ _ _ r h => by simp [quadratref06_Valid.l0] at h, fun _ _ r h => by simp [quadratref06_Valid.l1] at h⟩
  | k + 1 => by
    obtain ⟨ih0, ih1, ih2⟩ := quadratref06_Valid.mono_l k
    refine ⟨?_, ?_, ?_⟩
    · intro y0 y1 y2 y3
      unfold quadratref06_Valid.j0
      repeat' first
      | (with_reducible exact ih0 _ _ _ _)
      | (with_reducible exact ih1 _ _ _ _)
      | (with_reducible exact ih2 _ _)
      | (with_reducible exact quadratref06_places.mono _ _ _ _)
      | (with_reducible exact quadratref06_size.mono _ _)
      | (with_reducible exact LeO.refl _)
      | (with_reducible exact LeO.none _)
      | (with_reducible refine LeO.ite ?_ ?_)
      | (with_reducible refine LeO.bind ?_ (fun _ => ?_))
      | exact ih0 _ _ _ _
      | exact ih1 _ _ _ _
      | exact ih2 _ _
      | exact quadratref06_places.mono _ _ _ _
      | exact quadratref06_size.mono _ _
      | exact LeO.none _
      | refine LeO.ite ?_ ?_
      | refine LeO.bind ?_ (fun _ => ?_)
    · intro y0 y1 y2 y3
      unfold quadratref06_Valid.l0
      repeat' first
      | (with_reducible exact ih0 _ _ _ _)
      | (with_reducible exact ih1 _ _ _ _)
      | (with_reducible exact ih2 _ _)
      | (with_reducible exact quadratref06_places.mono _ _ _ _)
      | (with_reducible exact quadratref06_size.mono _ _)
      | (with_reducible exact LeO.refl _)
      | (with_reducible exact LeO.none _)
      | (with_reducible refine LeO.ite ?_ ?_)
      | (with_reducible refine LeO.bind ?_ (fun _ => ?_))
      | exact ih0 _ _ _ _
      | exact ih1 _ _ _ _
      | exact ih2 _ _
      | exact quadratref06_places.mono _ _ _ _
      | exact quadratref06_size.mono _ _
      | exact LeO.none _
      | refine LeO.ite ?_ ?_
      | refine LeO.bind ?_ (fun _ => ?_)
    · intro y0 y1
      unfold quadratref06_Valid.l1
      repeat' first
      | (with_reducible exact ih0 _ _ _ _)
      | (with_reducible exact ih1 _ _ _ _)
      | (with_reducible exact ih2 _ _)
      | (with_reducible exact quadratref06_places.mono _ _ _ _)
      | (with_reducible exact quadratref06_size.mono _ _)
      | (with_reducible exact LeO.refl _)
      | (with_reducible exact LeO.none _)
      | (with_reducible refine LeO.ite ?_ ?_)
      | (with_reducible refine LeO.bind ?_ (fun _ => ?_))
      | exact ih0 _ _ _ _
      | exact ih1 _ _ _ _
      | exact ih2 _ _
      | exact quadratref06_places.mono _ _ _ _
      | exact quadratref06_size.mono _ _
      | exact LeO.none _
      | refine LeO.ite ?_ ?_
      | refine LeO.bind ?_ (fun _ => ?_)
theorem quadratref06_Valid.mono : ∀ a0 a1 a2 k, LeO (quadratref06_Valid.f k a0 a1 a2) (quadratref06_Valid.f (k + 1) a0 a1 a2) := by
  intro a0 a1 a2 k
  obtain ⟨ih0, ih1, ih2⟩ := quadratref06_Valid.mono_l k
  unfold quadratref06_Valid.f
  repeat' first
      | (with_reducible exact ih0 _ _ _ _)
      | (with_reducible exact ih1 _ _ _ _)
      | (with_reducible exact ih2 _ _)
      | (with_reducible exact quadratref06_places.mono _ _ _ _)
      | (with_reducible exact quadratref06_size.mono _ _)
      | (with_reducible exact LeO.refl _)
      | (with_reducible exact LeO.none _)
      | (with_reducible refine LeO.ite ?_ ?_)
      | (with_reducible refine LeO.bind ?_ (fun _ => ?_))
      | exact ih0 _ _ _ _
      | exact ih1 _ _ _ _
      | exact ih2 _ _
      | exact quadratref06_places.mono _ _ _ _
      | exact quadratref06_size.mono _ _
      | exact LeO.none _
      | refine LeO.ite ?_ ?_
      | refine LeO.bind ?_ (fun _ => ?_)
set_option maxHeartbeats 8000000 in
set_option maxRecDepth 100000 in
theorem quadratref06_Valid.calls (k : Nat) (a0_0 : Int) (Xk : Option Addr) (Xl : Nat) (Xc : List Int) (Xm : Option Addr) (Xn : Nat) (Xb : List Int) (r : Bool) (w : World) (hr0_1 : Kd.C (Kd.int .i64) w Xk Xc.length Xc) (hc0_1 : Xc.length ≤ Xl) (hr0_2 : Kd.C (Kd.int .i64) w Xm Xb.length Xb) (hc0_2 : Xb.length ≤ Xn) (h : quadratref06_Valid.f k a0_0 Xc Xb = some r) :
    Calls Try.prog 24 #[.agg #[.int .i64 a0_0, .slice Xk Xc.length Xl, .slice Xm Xb.length Xn]] w fun e w' => e = .returned (.bool r) ∧ Below w.heap.size w w' := by
  have hu31 := Try.underlying31
  have Yb := Aside0.mk hr0_1
  have Yc := Aside0.mk hc0_1
  clear hr0_1 hc0_1
  have XN := Aside0.mk hr0_2
  have Yj := Aside0.mk hc0_2
  clear hr0_2 hc0_2
  have HB := Aside0.mk (Below.refl w.heap.size w)
  have H : (if a0_0 < 0 then (quadratref06_Valid.j0 k true a0_0 Xc Xb) else (if (Xb.length : Int) = (Xc.length : Int) then ((quadratref06_size.f k Xc).bind fun Xs => (quadratref06_Valid.j0 k (decide (Xs < 0)) a0_0 Xc Xb)) else (quadratref06_Valid.j0 k true a0_0 Xc Xb))) = some r := h
  clear h
  have Yx := Aside0.mk H
  clear H
  go_enter Try.func24, Try.ntmps24
  go_upto_region 1 with (first | ((with_reducible refine gate_dst (N := 1) rfl ?_); (try (refine gate_guard (by rfl) ?_; dsimp only)); refine box_event ?hg (N := 1) ?hd (cs := #[.int .i64 a0_0, .slice Xk Xc.length Xl, .slice Xm Xb.length Xn]) (t := 31) ?hr ?_; (case hd => rfl); (case hg => rfl); (case hr => first | (go_simp; done) | (go_simp; rfl)); intro Xd hg w3 hbox hb; have Yk := Aside0.mk (below_step (by exact upL HB.out) hb); have Yl := Aside0.mk (hbox); have Ym := Aside0.mk ((by rw [hg]; exact (below_size (by exact upL HB.out)) : w.heap.size ≤ Xd)); have Yy := Aside0.mk ((by rw [hg]; exact (below_size (by exact upL HB.out)) : w.heap.size ≤ Xd)); clear HB; have HB := Yk; have Xa := Yl; have Yz := Ym; have Xf := Yy; clear Yk Yl Ym Yy; clear hb hbox hg))
  (try simp only [Act.put, List.setIfInBounds_toArray, List.set_cons_zero, List.set_cons_succ])
  go_cut [23] (fun v23 wc => ∃ (kq : Nat) (XL : Bool), v23 = .bool XL ∧ Aside0 (quadratref06_Valid.j0 kq XL a0_0 Xc Xb = some r) ∧ Aside0 (kq ≤ k) ∧ Aside0 (wc.heap[Xd]? = some (.cells #[.int .i64 a0_0, (.slice Xk Xc.length Xl), (.slice Xm Xb.length Xn)] 31 (0, 0))) ∧ Aside0 (Below w.heap.size w wc))
  case first =>
   have H := Yx.out
   clear Yx
   by_cases c4 : a0_0 < 0
   case pos =>
    rw [if_pos c4] at H
    have Xr : decide (a0_0 < 0) = true := decide_eq_true c4
    clear c4
    (first | rw [Xr] | (simp only [i64_w, i32_w]; rw [Xr]) | skip)
    have H' := Aside0.mk H
    clear H
    have Xt : w3.cell? ⟨Xd, 0, none⟩ = some (.int .i64 a0_0) := (blk_cell Xa.out 0).trans rfl
    have Xu : w3.cell? ⟨Xd, 1, none⟩ = some (.slice Xk Xc.length Xl) := (blk_cell Xa.out 1).trans rfl
    have Xv : w3.cell? ⟨Xd, 2, none⟩ = some (.slice Xm Xb.length Xn) := (blk_cell Xa.out 2).trans rfl
    have Xw := blk_frozen Xa.out 0
    have Xx := blk_frozen Xa.out 1
    have Xy := blk_frozen Xa.out 2
    go_wp2
    go_meet
    case rel => exact ⟨_, (true), (by first | rfl | (simp; done) | (simp [*]; done)), H', ⟨by first | omega | exact Nat.le_refl _⟩, ⟨by exact upB Xa.out⟩, ⟨by repeat (first | (with_reducible first | exact HB.out | apply upS | refine below_set ?_ Xf.out) | exact HB.out)⟩⟩
   rw [if_neg c4] at H
   have Xr : decide (a0_0 < 0) = false := decide_eq_false c4
   clear c4
   (first | rw [Xr] | (simp only [i64_w, i32_w]; rw [Xr]) | skip)
   by_cases c6 : (Xb.length : Int) = (Xc.length : Int)
   case neg =>
    rw [if_neg c6] at H
    have XP : ((Xb.length : Int) == (Xc.length : Int)) = false := beq_eq_false_iff_ne.mpr c6
    have XQ : ((Xb.length : Int) != (Xc.length : Int)) = true := bne_iff_ne.mpr c6
    have XR : (Xb.length == Xc.length) = false := by first | simpa using c6 | (simp at c6 ⊢; omega)
    have H' := Aside0.mk H
    clear H
    have Xz : w3.cell? ⟨Xd, 0, none⟩ = some (.int .i64 a0_0) := (blk_cell Xa.out 0).trans rfl
    have XA : w3.cell? ⟨Xd, 1, none⟩ = some (.slice Xk Xc.length Xl) := (blk_cell Xa.out 1).trans rfl
    have XB : w3.cell? ⟨Xd, 2, none⟩ = some (.slice Xm Xb.length Xn) := (blk_cell Xa.out 2).trans rfl
    have XC := blk_frozen Xa.out 0
    have XD := blk_frozen Xa.out 1
    have XE := blk_frozen Xa.out 2
    go_wp2
    go_meet
    case rel => exact ⟨_, (true), (by first | rfl | (simp; done) | (simp [*]; done)), H', ⟨by first | omega | exact Nat.le_refl _⟩, ⟨by exact upB Xa.out⟩, ⟨by repeat (first | (with_reducible first | exact HB.out | apply upS | refine below_set ?_ Xf.out) | exact HB.out)⟩⟩
   rw [if_pos c6] at H
   have XP : ((Xb.length : Int) == (Xc.length : Int)) = true := beq_iff_eq.mpr c6
   have XQ : ((Xb.length : Int) != (Xc.length : Int)) = false := bne_eq_false_iff_eq.mpr c6
   have XR : (Xb.length == Xc.length) = true := by first | simpa using c6 | (simp at c6 ⊢; omega)
   clear c6
   replace H := Option.bind_eq_some_iff.mp H
   obtain ⟨Xs, YA, H⟩ := H
   replace H : (quadratref06_Valid.j0 k (decide (Xs < 0)) a0_0 Xc Xb) = some r := H
   have A7 := Aside0.mk YA
   clear YA
   have H' := Aside0.mk H
   clear H
   have XF : w3.cell? ⟨Xd, 0, none⟩ = some (.int .i64 a0_0) := (blk_cell Xa.out 0).trans rfl
   have XG : w3.cell? ⟨Xd, 1, none⟩ = some (.slice Xk Xc.length Xl) := (blk_cell Xa.out 1).trans rfl
   have XH : w3.cell? ⟨Xd, 2, none⟩ = some (.slice Xm Xb.length Xn) := (blk_cell Xa.out 2).trans rfl
   have XI := blk_frozen Xa.out 0
   have XJ := blk_frozen Xa.out 1
   have XK := blk_frozen Xa.out 2
   go_wp2_with (first | (go_at_call 47; (with_reducible refine (quadratref06_size.calls k _ _ Xc Xs _ ?side1 ?side2 A7.out).mono ?_); (case side1 => repeat (first | exact (Kd.C_below Yb.out HB.out) | (with_reducible refine Kd.C_alloc ?_ _) | (with_reducible refine Kd.C_drewN ?_ _) | (with_reducible refine Kd.C_drew ?_))); (case side2 => exact Yc.out); rintro e w' ⟨rfl, ⟨nd, rfl⟩⟩))
   go_meet
   case rel => exact ⟨_, (decide (Xs < 0)), (by first | rfl | (simp; done) | (simp [*]; done)), H', ⟨by first | omega | exact Nat.le_refl _⟩, ⟨by exact upB Xa.out⟩, ⟨by repeat (first | (with_reducible first | exact HB.out | apply upS | refine below_set ?_ Xf.out) | exact HB.out)⟩⟩
  clear Yx
  try clear c2
  try clear p2
  try clear c4
  try clear Xr
  try clear c6
  try clear XP
  try clear XQ
  try clear XR
  try clear Xt
  try clear Xu
  try clear Xv
  try clear XF
  try clear XG
  try clear XH
  try clear Xz
  try clear XA
  try clear XB
  try clear Xw
  try clear Xx
  try clear Xy
  try clear XI
  try clear XJ
  try clear XK
  try clear XC
  try clear XD
  try clear XE
  obtain ⟨kq, XL, rfl, HA, HJ1, Xa, HB⟩ := hcut
  cases kq with
  | zero => exact absurd HA.out (by simp [quadratref06_Valid.j0])
  | succ kj1 =>
   have H := HA.out
   clear HA
   simp only [quadratref06_Valid.j0] at H
   by_cases Yf : XL = true
   case pos =>
    subst Yf
    have H1 : (some false) = some r := by rw [if_pos rfl] at H; exact H
    clear H
    have H := H1
    clear H1
    obtain rfl := Option.some.inj H
    go_wp2
    go_ret
    exact ⟨by first | rfl | (simp [errW_none, errW_some] <;> rfl) | (simp [*, errW_none, errW_some] <;> rfl), by repeat (first | (with_reducible first | exact HB.out | apply upS | refine below_set ?_ Xf.out) | exact HB.out)⟩
   replace Yf := Bool.eq_false_iff.mpr Yf
   subst Yf
   have H1 : (quadratref06_Valid.l0 kj1 0 a0_0 Xc Xb) = some r := by rw [if_neg (show ¬ (false = true) by decide)] at H; exact H
   clear H
   have H := H1
   clear H1
   have H' := Aside0.mk H
   clear H
   go_wp2
   go_loopg [3] kj1 (fun kq v3 w' => ∃ (Xh : Int), v3 = .int .i64 Xh ∧ Aside0 (quadratref06_Valid.l0 kq Xh a0_0 Xc Xb = some r) ∧ Aside0 (kq ≤ kj1) ∧ Aside0 (w'.heap[Xd]? = some (.cells #[.int .i64 a0_0, (.slice Xk Xc.length Xl), (.slice Xm Xb.length Xn)] 31 (0, 0))) ∧ Aside0 (Below w.heap.size w w'))
   case atStart => exact ⟨(0), (by first | rfl | (simp; done) | (simp [*]; done)), H', ⟨Nat.le_refl _⟩, ⟨by exact upB Xa.out⟩, ⟨by repeat (first | (with_reducible first | exact HB.out | apply upS | refine below_set ?_ Xf.out) | exact HB.out)⟩⟩
   clear H'
   try clear c1
   try clear c2
   try clear p2
   try clear c4
   try clear Xr
   try clear c6
   try clear XP
   try clear XQ
   try clear XR
   try clear Yf
   try clear Xt
   try clear Xu
   try clear Xv
   try clear XF
   try clear XG
   try clear XH
   try clear Xz
   try clear XA
   try clear XB
   try clear Xw
   try clear Xx
   try clear Xy
   try clear XI
   try clear XJ
   try clear XK
   try clear XC
   try clear XD
   try clear XE
   try clear p2
   obtain ⟨Xh, rfl, HA, HK2, Xa, HB⟩ := hrel
   cases gk with
   | zero => exact absurd HA.out (by simp [quadratref06_Valid.l0])
   | succ k2 =>
    have H := HA.out
    clear HA
    simp only [quadratref06_Valid.l0] at H
    by_cases Ye : Xh < (Xb.length : Int)
    case pos =>
     rw [if_pos Ye] at H
     have Yd : decide (Xh < (Xb.length : Int)) = true := decide_eq_true Ye
     clear Ye
     by_cases Yn : 0 ≤ Xh
     case neg =>
      rw [if_neg Yn] at H
      exact absurd H (by simp)
     rw [if_pos Yn] at H
     have Yo : decide (0 ≤ Xh) = true := decide_eq_true Yn
     clear Yn
     replace H := Option.bind_eq_some_iff.mp H
     obtain ⟨XO, Yp, H⟩ := H
     replace H : (if XO = true then (quadratref06_Valid.l0 k2 (wrap64 (Xh + 1)) a0_0 Xc Xb) else (some false)) = some r := H
     have YB := Aside0.mk Yp
     clear Yp
     by_cases Yq : XO = true
     case neg =>
      replace Yq := Bool.eq_false_iff.mpr Yq
      subst Yq
      have H1 : (some false) = some r := by rw [if_neg (show ¬ (false = true) by decide)] at H; exact H
      clear H
      have H := H1
      clear H1
      obtain rfl := Option.some.inj H
      have XS : wr.cell? ⟨Xd, 0, none⟩ = some (.int .i64 a0_0) := (blk_cell Xa.out 0).trans rfl
      have XT : wr.cell? ⟨Xd, 1, none⟩ = some (.slice Xk Xc.length Xl) := (blk_cell Xa.out 1).trans rfl
      have XU : wr.cell? ⟨Xd, 2, none⟩ = some (.slice Xm Xb.length Xn) := (blk_cell Xa.out 2).trans rfl
      have XV := blk_frozen Xa.out 0
      have XW := blk_frozen Xa.out 1
      have XX := blk_frozen Xa.out 2
      have p236 : 0 ≤ (Xh : Int) := of_decide_eq_true (by first | (with_reducible assumption) | assumption)
      have q236 : Xh < (Xb.length : Int) := of_decide_eq_true (by first | (with_reducible assumption) | assumption)
      obtain ⟨ad236, e236, Xg⟩ := Kd.at_int XN.out Xh p236 q236
      cases e236
      replace Xg := (HB.out.cell (World.block_lt_of_cell? w _ Xg)).trans Xg
      replace p236 := eq_true p236
      replace q236 := eq_true q236
      go_wp2_with (first | ((with_reducible refine gate_callee (f := 51) rfl ?_); refine goesL_ (some 36) rfl rfl Try.func51 (by kernel_rfl) rfl #[.int .i64 (rd Xb Xh)] rfl (by (try simp only [List.map_toArray, List.map_cons, List.map_nil]); first | done | rfl | (simp only [List.length_drop, List.length_take]; rfl)) ?_; (with_reducible refine (quadratref06_near.calls (rd Xb Xh) false _ YB.out).mono ?_); rintro e w' ⟨rfl, ⟨nd, rfl⟩⟩; refine ⟨_, rfl, ?_⟩))
      go_ret
      exact ⟨by first | rfl | (simp [errW_none, errW_some] <;> rfl) | (simp [*, errW_none, errW_some] <;> rfl), by repeat (first | (with_reducible first | exact HB.out | apply upS | refine below_set ?_ Xf.out) | exact HB.out)⟩
     subst Yq
     have H1 : (quadratref06_Valid.l0 k2 (wrap64 (Xh + 1)) a0_0 Xc Xb) = some r := by rw [if_pos rfl] at H; exact H
     clear H
     have H := H1
     clear H1
     have H' := Aside0.mk H
     clear H
     have XY : wr.cell? ⟨Xd, 0, none⟩ = some (.int .i64 a0_0) := (blk_cell Xa.out 0).trans rfl
     have XZ : wr.cell? ⟨Xd, 1, none⟩ = some (.slice Xk Xc.length Xl) := (blk_cell Xa.out 1).trans rfl
     have X0 : wr.cell? ⟨Xd, 2, none⟩ = some (.slice Xm Xb.length Xn) := (blk_cell Xa.out 2).trans rfl
     have X1 := blk_frozen Xa.out 0
     have X2 := blk_frozen Xa.out 1
     have X3 := blk_frozen Xa.out 2
     have p236 : 0 ≤ (Xh : Int) := of_decide_eq_true (by first | (with_reducible assumption) | assumption)
     have q236 : Xh < (Xb.length : Int) := of_decide_eq_true (by first | (with_reducible assumption) | assumption)
     obtain ⟨ad236, e236, Xg⟩ := Kd.at_int XN.out Xh p236 q236
     cases e236
     replace Xg := (HB.out.cell (World.block_lt_of_cell? w _ Xg)).trans Xg
     replace p236 := eq_true p236
     replace q236 := eq_true q236
     go_wp2_with (first | ((with_reducible refine gate_callee (f := 51) rfl ?_); refine goesL_ (some 36) rfl rfl Try.func51 (by kernel_rfl) rfl #[.int .i64 (rd Xb Xh)] rfl (by (try simp only [List.map_toArray, List.map_cons, List.map_nil]); first | done | rfl | (simp only [List.length_drop, List.length_take]; rfl)) ?_; (with_reducible refine (quadratref06_near.calls (rd Xb Xh) true _ YB.out).mono ?_); rintro e w' ⟨rfl, ⟨nd, rfl⟩⟩; refine ⟨_, rfl, ?_⟩))
     go_roundg k2
     case measure => have := HJ1.out; have := HK2.out; omega
     case rel => exact ⟨(wrap64 (Xh + 1)), (by first | rfl | (simp; done) | (simp [*]; done)), H', ⟨by have := HJ1.out; have := HK2.out; omega⟩, ⟨by exact upB Xa.out⟩, ⟨by repeat (first | (with_reducible first | exact HB.out | apply upS | refine below_set ?_ Xf.out) | exact HB.out)⟩⟩
    rw [if_neg Ye] at H
    have Yd : decide (Xh < (Xb.length : Int)) = false := decide_eq_false Ye
    clear Ye
    replace H := Option.bind_eq_some_iff.mp H
    obtain ⟨Xi, Yr, H⟩ := H
    replace H : (quadratref06_Valid.l1 k2 Xi 0) = some r := H
    have YE := Aside0.mk Yr
    clear Yr
    have H' := Aside0.mk H
    clear H
    have X4 : wr.cell? ⟨Xd, 0, none⟩ = some (.int .i64 a0_0) := (blk_cell Xa.out 0).trans rfl
    have X5 : wr.cell? ⟨Xd, 1, none⟩ = some (.slice Xk Xc.length Xl) := (blk_cell Xa.out 1).trans rfl
    have X6 : wr.cell? ⟨Xd, 2, none⟩ = some (.slice Xm Xb.length Xn) := (blk_cell Xa.out 2).trans rfl
    have X7 := blk_frozen Xa.out 0
    have X8 := blk_frozen Xa.out 1
    have X9 := blk_frozen Xa.out 2
    go_wp2_with (first | ((with_reducible refine gate_callee (f := 52) rfl ?_); refine goesL_ (some 39) rfl rfl Try.func52 (by kernel_rfl) rfl #[.agg #[.int .i64 a0_0, .slice Xk Xc.length Xl, .slice Xm Xb.length Xn]] rfl (by (try simp only [List.map_toArray, List.map_cons, List.map_nil]); first | done | rfl | (simp only [List.length_drop, List.length_take]; rfl)) ?_; (with_reducible refine (quadratref06_places.calls k2 a0_0 _ _ Xc _ _ Xb Xi _ ?side1 ?side2 ?side3 ?side4 YE.out).mono ?_); (case side1 => repeat (first | exact (Kd.C_below Yb.out HB.out) | (with_reducible refine Kd.C_alloc ?_ _) | (with_reducible refine Kd.C_drewN ?_ _) | (with_reducible refine Kd.C_drew ?_))); (case side2 => exact Yc.out); (case side3 => repeat (first | exact (Kd.C_below XN.out HB.out) | (with_reducible refine Kd.C_alloc ?_ _) | (with_reducible refine Kd.C_drewN ?_ _) | (with_reducible refine Kd.C_drew ?_))); (case side4 => exact Yj.out); rintro e w19 ⟨v239, rfl, ho0, hb⟩; refine ⟨_, rfl, ?_⟩; have Yk := Aside0.mk (Kd.R_lower ho0 (below_size (by repeat (first | (with_reducible first | exact HB.out | apply upS | refine below_set ?_ Xf.out) | exact HB.out)))); have Yl := Aside0.mk (blk_below (g := Xd) (o := .cells #[.int .i64 a0_0, .slice Xk Xc.length Xl, .slice Xm Xb.length Xn] 31 (0, 0)) (by exact upB Xa.out) hb); have Ym := Aside0.mk (below_step (by repeat (first | (with_reducible first | exact HB.out | apply upS | refine below_set ?_ Xf.out) | exact HB.out)) hb); clear Xa; clear HB; have Ys := Yk; have Xa := Yl; have HB := Ym; clear Yk Yl Ym; (try clear hb); (try clear YN); (try clear hk); (try clear hi); (try clear ho0)))
    go_loopg [5] k2 (fun kq v5 w' => ∃ (Xe : Int), v5 = .int .i64 Xe ∧ Aside0 (quadratref06_Valid.l1 kq Xi Xe = some r) ∧ Aside0 (kq ≤ k2) ∧ Aside0 (Kd.R (Kd.int .i64) 3 w' w.heap.size (fun _ => True) v239 Xi) ∧ Aside0 (w'.heap[Xd]? = some (.cells #[.int .i64 a0_0, (.slice Xk Xc.length Xl), (.slice Xm Xb.length Xn)] 31 (0, 0))) ∧ Aside0 (Below w.heap.size w w'))
    case atStart => exact ⟨(0), (by first | rfl | (simp; done) | (simp [*]; done)), H', ⟨Nat.le_refl _⟩, ⟨by (with_reducible repeat apply upG); exact Ys.out⟩, ⟨by exact upB Xa.out⟩, ⟨by repeat (first | (with_reducible first | exact HB.out | apply upS | refine below_set ?_ Xf.out) | exact HB.out)⟩⟩
    clear H'
    try clear c1
    try clear c2
    try clear p2
    try clear q2
    try clear YO
    try clear c4
    try clear Xr
    try clear c5
    try clear c6
    try clear XP
    try clear XQ
    try clear XR
    try clear p6
    try clear Yf
    try clear Ye
    try clear Yd
    try clear Yn
    try clear Yo
    try clear Yq
    try clear XY
    try clear XZ
    try clear X0
    try clear XS
    try clear XT
    try clear XU
    try clear X4
    try clear X5
    try clear X6
    try clear Xt
    try clear Xu
    try clear Xv
    try clear XF
    try clear XG
    try clear XH
    try clear Xz
    try clear XA
    try clear XB
    try clear X1
    try clear X2
    try clear X3
    try clear XV
    try clear XW
    try clear XX
    try clear X7
    try clear X8
    try clear X9
    try clear Xw
    try clear Xx
    try clear Xy
    try clear XI
    try clear XJ
    try clear XK
    try clear XC
    try clear XD
    try clear XE
    try clear Xg
    try clear p2
    try clear p236
    try clear q236
    obtain ⟨Xe, rfl, HA, HK3, Xq, Xa, HB⟩ := hrel
    cases gk with
    | zero => exact absurd HA.out (by simp [quadratref06_Valid.l1])
    | succ k3 =>
     have H := HA.out
     clear HA
     simp only [quadratref06_Valid.l1] at H
     by_cases Yg : Xe < (Xi.length : Int)
     case neg =>
      rw [if_neg Yg] at H
      have Yt : decide (Xe < (Xi.length : Int)) = false := decide_eq_false Yg
      clear Yg
      obtain rfl := Option.some.inj H
      obtain ⟨YF, YG, eo27⟩ := Kd.R_slice Xq.out
      subst eo27
      go_wp2
      go_ret
      exact ⟨by first | rfl | (simp [errW_none, errW_some] <;> rfl) | (simp [*, errW_none, errW_some] <;> rfl), by repeat (first | (with_reducible first | exact HB.out | apply upS | refine below_set ?_ Xf.out) | exact HB.out)⟩
     rw [if_pos Yg] at H
     have Yt : decide (Xe < (Xi.length : Int)) = true := decide_eq_true Yg
     clear Yg
     by_cases Yw : 0 ≤ Xe
     case neg =>
      rw [if_neg Yw] at H
      exact absurd H (by simp)
     rw [if_pos Yw] at H
     have YC : decide (0 ≤ Xe) = true := decide_eq_true Yw
     clear Yw
     by_cases Yh : (rd Xi Xe) < 0
     case pos =>
      rw [if_pos Yh] at H
      have Yu : decide ((rd Xi Xe) < 0) = true := decide_eq_true Yh
      clear Yh
      obtain rfl := Option.some.inj H
      obtain ⟨YH, YI, eo23⟩ := Kd.R_slice Xq.out
      subst eo23
      have p241 : 0 ≤ (Xe : Int) := of_decide_eq_true (by first | (with_reducible assumption) | assumption)
      have q241 : Xe < (Xi.length : Int) := of_decide_eq_true (by first | (with_reducible assumption) | assumption)
      obtain ⟨ad241, e241, XM⟩ := Kd.at_int (Kd.R_reads' Xq.out).2.2 Xe p241 q241
      cases e241
      replace p241 := eq_true p241
      replace q241 := eq_true q241
      go_wp2
      go_ret
      exact ⟨by first | rfl | (simp [errW_none, errW_some] <;> rfl) | (simp [*, errW_none, errW_some] <;> rfl), by repeat (first | (with_reducible first | exact HB.out | apply upS | refine below_set ?_ Xf.out) | exact HB.out)⟩
     rw [if_neg Yh] at H
     have Yu : decide ((rd Xi Xe) < 0) = false := decide_eq_false Yh
     clear Yh
     by_cases Yi : (rd Xi Xe) > 2147483648
     case pos =>
      rw [if_pos Yi] at H
      have Yv : decide (2147483648 < (rd Xi Xe)) = true := decide_eq_true Yi
      clear Yi
      obtain rfl := Option.some.inj H
      obtain ⟨YJ, YK, eo25⟩ := Kd.R_slice Xq.out
      subst eo25
      have p241 : 0 ≤ (Xe : Int) := of_decide_eq_true (by first | (with_reducible assumption) | assumption)
      have q241 : Xe < (Xi.length : Int) := of_decide_eq_true (by first | (with_reducible assumption) | assumption)
      obtain ⟨ad241, e241, XM⟩ := Kd.at_int (Kd.R_reads' Xq.out).2.2 Xe p241 q241
      cases e241
      replace p241 := eq_true p241
      replace q241 := eq_true q241
      have p242 : 0 ≤ (Xe : Int) := of_decide_eq_true (by first | (with_reducible assumption) | assumption)
      have q242 : Xe < (Xi.length : Int) := of_decide_eq_true (by first | (with_reducible assumption) | assumption)
      obtain ⟨ad242, e242, Ya⟩ := Kd.at_int (Kd.R_reads' Xq.out).2.2 Xe p242 q242
      obtain rfl : ad241 = ad242 := (by injection e242)
      replace p242 := eq_true p242
      replace q242 := eq_true q242
      go_wp2
      go_ret
      exact ⟨by first | rfl | (simp [errW_none, errW_some] <;> rfl) | (simp [*, errW_none, errW_some] <;> rfl), by repeat (first | (with_reducible first | exact HB.out | apply upS | refine below_set ?_ Xf.out) | exact HB.out)⟩
     rw [if_neg Yi] at H
     have Yv : decide (2147483648 < (rd Xi Xe)) = false := decide_eq_false Yi
     clear Yi
     have H' := Aside0.mk H
     clear H
     obtain ⟨YL, YM, eo26⟩ := Kd.R_slice Xq.out
     subst eo26
     have p241 : 0 ≤ (Xe : Int) := of_decide_eq_true (by first | (with_reducible assumption) | assumption)
     have q241 : Xe < (Xi.length : Int) := of_decide_eq_true (by first | (with_reducible assumption) | assumption)
     obtain ⟨ad241, e241, XM⟩ := Kd.at_int (Kd.R_reads' Xq.out).2.2 Xe p241 q241
     cases e241
     replace p241 := eq_true p241
     replace q241 := eq_true q241
     have p242 : 0 ≤ (Xe : Int) := of_decide_eq_true (by first | (with_reducible assumption) | assumption)
     have q242 : Xe < (Xi.length : Int) := of_decide_eq_true (by first | (with_reducible assumption) | assumption)
     obtain ⟨ad242, e242, Ya⟩ := Kd.at_int (Kd.R_reads' Xq.out).2.2 Xe p242 q242
     obtain rfl : ad241 = ad242 := (by injection e242)
     replace p242 := eq_true p242
     replace q242 := eq_true q242
     go_wp2
     go_roundg k3
     case measure => have := HJ1.out; have := HK2.out; have := HK3.out; omega
     case rel => exact ⟨(wrap64 (Xe + 1)), (by first | rfl | (simp; done) | (simp [*]; done)), H', ⟨by have := HJ1.out; have := HK2.out; have := HK3.out; omega⟩, ⟨by exact upR Xq.out⟩, ⟨by exact upB Xa.out⟩, ⟨by repeat (first | (with_reducible first | exact HB.out | apply upS | refine below_set ?_ Xf.out) | exact HB.out)⟩⟩

end Go.Proofs.Yticjlkommabcjaa.PS
