-- Printed by wip/qprint.py of this repository, over the kit's print, out of the translation. Not trusted: Lean checks it.
import Derived.Test.YticjlkommabcjaaPSx0
import Derived.Test.YticjlkommabcjaaPSx3
import Derived.Test.YticjlkommabcjaaUp
namespace Go.Proofs.Yticjlkommabcjaa.PS
open Go.RowKit Go.Proofs.YticjlkommabcjaaW.PrintWords Go.Proofs.YticjlkommabcjaaW.PrintLast Go.Proofs.YticjlkommabcjaaW.PrintMore
attribute [local go_sem] max2_int min2_int max_two min_two max_three min_three max_four min_four   -- for this text's walks alone
set_option linter.unusedVariables false
set_option linter.unusedSimpArgs false
set_option maxRecDepth 100000

/-! ### section_ends: function 50 -/
def section_ends.l0 : Nat → Int → Int → List Int → Int → Int → Int → List Int → List Int → Option (Int × Int)
  | 0, _, _, _, _, _, _, _, _ => none
  | k + 1, x2, x3, XK, XU, Xx, Xy, Xg, Xz => if Xx < XU then (if 0 ≤ Xx then (if Xx < (XK.length : Int) then (if Xx < (Xg.length : Int) then (section_ends.l0 k (wrap64 (x2 + (mn (wrap64 ((rd XK Xx) * (wrap64 ((rd Xg Xx) - 1)))) 0))) (wrap64 (x3 + (mx (wrap64 ((rd XK Xx) * (wrap64 ((rd Xg Xx) - 1)))) 0))) XK XU (wrap64 (Xx + 1)) Xy Xg Xz) else (none)) else (none)) else (none)) else (some (x2, x3))
def section_ends.f (k : Nat) (a0_0 : Int) (Xe : List Int) (Xc : List Int) : Option (Int × Int) := section_ends.l0 k a0_0 a0_0 Xc (Xc.length : Int) 0 a0_0 Xe Xc
theorem section_ends.mono_l : ∀ k, (∀ y0 y1 y2 y3 y4 y5 y6 y7, LeO (section_ends.l0 k y0 y1 y2 y3 y4 y5 y6 y7) (section_ends.l0 (k + 1) y0 y1 y2 y3 y4 y5 y6 y7))
  | 0 => fun _ _ _ _ _ _ _ _ r h => by simp [section_ends.l0] at h
  | k + 1 => by
    have ih0 := section_ends.mono_l k
    · intro y0 y1 y2 y3 y4 y5 y6 y7
      unfold section_ends.l0
      repeat' first
      | (with_reducible exact ih0 _ _ _ _ _ _ _ _)
      | (with_reducible exact LeO.refl _)
      | (with_reducible exact LeO.none _)
      | (with_reducible refine LeO.ite ?_ ?_)
      | (with_reducible refine LeO.bind ?_ (fun _ => ?_))
      | exact ih0 _ _ _ _ _ _ _ _
      | exact LeO.none _
      | refine LeO.ite ?_ ?_
      | refine LeO.bind ?_ (fun _ => ?_)
theorem section_ends.mono : ∀ a0 a1 a2 k, LeO (section_ends.f k a0 a1 a2) (section_ends.f (k + 1) a0 a1 a2) := by
  intro a0 a1 a2 k
  have ih0 := section_ends.mono_l k
  unfold section_ends.f
  repeat' first
      | (with_reducible exact ih0 _ _ _ _ _ _ _ _)
      | (with_reducible exact LeO.refl _)
      | (with_reducible exact LeO.none _)
      | (with_reducible refine LeO.ite ?_ ?_)
      | (with_reducible refine LeO.bind ?_ (fun _ => ?_))
      | exact ih0 _ _ _ _ _ _ _ _
      | exact LeO.none _
      | refine LeO.ite ?_ ?_
      | refine LeO.bind ?_ (fun _ => ?_)
set_option maxHeartbeats 8000000 in
set_option maxRecDepth 100000 in
theorem section_ends.calls (k : Nat) (a0_0 : Int) (Xh : Option Addr) (Xi : Nat) (Xe : List Int) (Xk : Option Addr) (Xj : Nat) (Xc : List Int) (r1 : Int) (r2 : Int) (w : World) (hr0_1 : Kd.C (Kd.int .i64) w Xh Xe.length Xe) (hc0_1 : Xe.length ≤ Xi) (hr0_2 : Kd.C (Kd.int .i64) w Xk Xc.length Xc) (hc0_2 : Xc.length ≤ Xj) (h : section_ends.f k a0_0 Xe Xc = some (r1, r2)) :
    Calls Try.prog 50 #[.agg #[.int .i64 a0_0, .slice Xh Xe.length Xi, .slice Xk Xc.length Xj]] w fun e w' => e = .returned (.tuple #[.int .i64 r1, .int .i64 r2]) ∧ Below w.heap.size w w' := by
  have hu31 := Try.underlying31
  have XH := Aside0.mk hr0_1
  have XV := Aside0.mk hc0_1
  clear hr0_1 hc0_1
  have XI := Aside0.mk hr0_2
  have XW := Aside0.mk hc0_2
  clear hr0_2 hc0_2
  have HB := Aside0.mk (Below.refl w.heap.size w)
  have H : (section_ends.l0 k a0_0 a0_0 Xc (Xc.length : Int) 0 a0_0 Xe Xc) = some (r1, r2) := h
  clear h
  have H' := Aside0.mk H
  clear H
  go_enter Try.func50, Try.ntmps50
  go_wp2_with (first | ((with_reducible refine gate_dst (N := 1) rfl ?_); refine box_event ?hg (N := 1) ?hd (cs := #[.int .i64 a0_0, .slice Xh Xe.length Xi, .slice Xk Xc.length Xj]) (t := 31) ?hr ?_; (case hd => rfl); (case hg => rfl); (case hr => first | (go_simp; done) | (go_simp; rfl)); intro Xd hg w2 hbox hb; have XC := Aside0.mk (below_step (by exact upL HB.out) hb); have XD := Aside0.mk (hbox); have XE := Aside0.mk ((by rw [hg]; exact (below_size (by exact upL HB.out)) : w.heap.size ≤ Xd)); have XF := Aside0.mk ((by rw [hg]; exact (below_size (by exact upL HB.out)) : w.heap.size ≤ Xd)); clear HB; have HB := XC; have Xb := XD; have XG := XE; have Xn := XF; clear XC XD XE XF; clear hb hbox hg; have Xo : w2.cell? ⟨Xd, 0, none⟩ = some (.int .i64 a0_0) := (blk_cell Xb.out 0).trans rfl; have Xp : w2.cell? ⟨Xd, 1, none⟩ = some (.slice Xh Xe.length Xi) := (blk_cell Xb.out 1).trans rfl; have Xq : w2.cell? ⟨Xd, 2, none⟩ = some (.slice Xk Xc.length Xj) := (blk_cell Xb.out 2).trans rfl; have Xr := blk_frozen Xb.out 0; have Xs := blk_frozen Xb.out 1; have Xt := blk_frozen Xb.out 2))
  repeat (go_quiet (first | ((with_reducible refine gate_dst (N := 1) rfl ?_); refine box_event ?hg (N := 1) ?hd (cs := #[.int .i64 a0_0, .slice Xh Xe.length Xi, .slice Xk Xc.length Xj]) (t := 31) ?hr ?_; (case hd => rfl); (case hg => rfl); (case hr => first | (go_simp; done) | (go_simp; rfl)); intro Xd hg w2 hbox hb; have XC := Aside0.mk (below_step (by exact upL HB.out) hb); have XD := Aside0.mk (hbox); have XE := Aside0.mk ((by rw [hg]; exact (below_size (by exact upL HB.out)) : w.heap.size ≤ Xd)); have XF := Aside0.mk ((by rw [hg]; exact (below_size (by exact upL HB.out)) : w.heap.size ≤ Xd)); clear HB; have HB := XC; have Xb := XD; have XG := XE; have Xn := XF; clear XC XD XE XF; clear hb hbox hg; have Xo : w2.cell? ⟨Xd, 0, none⟩ = some (.int .i64 a0_0) := (blk_cell Xb.out 0).trans rfl; have Xp : w2.cell? ⟨Xd, 1, none⟩ = some (.slice Xh Xe.length Xi) := (blk_cell Xb.out 1).trans rfl; have Xq : w2.cell? ⟨Xd, 2, none⟩ = some (.slice Xk Xc.length Xj) := (blk_cell Xb.out 2).trans rfl; have Xr := blk_frozen Xb.out 0; have Xs := blk_frozen Xb.out 1; have Xt := blk_frozen Xb.out 2)); try go_wp2_with (first | ((with_reducible refine gate_dst (N := 1) rfl ?_); refine box_event ?hg (N := 1) ?hd (cs := #[.int .i64 a0_0, .slice Xh Xe.length Xi, .slice Xk Xc.length Xj]) (t := 31) ?hr ?_; (case hd => rfl); (case hg => rfl); (case hr => first | (go_simp; done) | (go_simp; rfl)); intro Xd hg w2 hbox hb; have XC := Aside0.mk (below_step (by exact upL HB.out) hb); have XD := Aside0.mk (hbox); have XE := Aside0.mk ((by rw [hg]; exact (below_size (by exact upL HB.out)) : w.heap.size ≤ Xd)); have XF := Aside0.mk ((by rw [hg]; exact (below_size (by exact upL HB.out)) : w.heap.size ≤ Xd)); clear HB; have HB := XC; have Xb := XD; have XG := XE; have Xn := XF; clear XC XD XE XF; clear hb hbox hg; have Xo : w2.cell? ⟨Xd, 0, none⟩ = some (.int .i64 a0_0) := (blk_cell Xb.out 0).trans rfl; have Xp : w2.cell? ⟨Xd, 1, none⟩ = some (.slice Xh Xe.length Xi) := (blk_cell Xb.out 1).trans rfl; have Xq : w2.cell? ⟨Xd, 2, none⟩ = some (.slice Xk Xc.length Xj) := (blk_cell Xb.out 2).trans rfl; have Xr := blk_frozen Xb.out 0; have Xs := blk_frozen Xb.out 1; have Xt := blk_frozen Xb.out 2)))
  go_loopg [2, 3, 14] k (fun kq v2 v3 v14 w' => ∃ (Xu : Int) (Xv : Int) (Xa : Int), v2 = .int .i64 Xu ∧ v3 = .int .i64 Xv ∧ v14 = .int .i64 Xa ∧ Aside0 (section_ends.l0 kq Xu Xv Xc (Xc.length : Int) Xa a0_0 Xe Xc = some (r1, r2)) ∧ Aside0 (kq ≤ k) ∧ Aside0 (w'.heap[Xd]? = some (.cells #[.int .i64 a0_0, (.slice Xh Xe.length Xi), (.slice Xk Xc.length Xj)] 31 (0, 0))) ∧ Aside0 (Below w.heap.size w w'))
  case atStart => exact ⟨(a0_0), (a0_0), (0), (by first | rfl | (simp; done) | (simp [*]; done)), (by first | rfl | (simp; done) | (simp [*]; done)), (by first | rfl | (simp; done) | (simp [*]; done)), H', ⟨Nat.le_refl _⟩, ⟨by exact upB Xb.out⟩, ⟨by repeat (first | (with_reducible first | exact HB.out | apply upS | refine below_set ?_ Xn.out) | exact HB.out)⟩⟩
  clear H'
  try clear p2
  try clear Xo
  try clear Xp
  try clear Xq
  try clear Xr
  try clear Xs
  try clear Xt
  obtain ⟨Xu, Xv, Xa, rfl, rfl, rfl, HA, HK1, Xb, HB⟩ := hrel
  cases gk with
  | zero => exact absurd HA.out (by simp [section_ends.l0])
  | succ k1 =>
   have H := HA.out
   clear HA
   simp only [section_ends.l0] at H
   by_cases c4 : Xa < (Xc.length : Int)
   case neg =>
    rw [if_neg c4] at H
    have XJ : decide (Xa < (Xc.length : Int)) = false := decide_eq_false c4
    clear c4
    simp only [Option.some.injEq, Prod.mk.injEq] at H
    obtain ⟨rfl, rfl⟩ := H
    go_wp2
    repeat (go_quiet (fail); try go_wp2)
    go_ret2
    exact ⟨by first | rfl | (simp [errW_none, errW_some] <;> rfl) | (simp [*, errW_none, errW_some] <;> rfl), by repeat (first | (with_reducible first | exact HB.out | apply upS | refine below_set ?_ Xn.out) | exact HB.out)⟩
   rw [if_pos c4] at H
   have XJ : decide (Xa < (Xc.length : Int)) = true := decide_eq_true c4
   clear c4
   by_cases c5 : 0 ≤ Xa
   case neg =>
    rw [if_neg c5] at H
    exact absurd H (by simp)
   rw [if_pos c5] at H
   have XS : decide (0 ≤ Xa) = true := decide_eq_true c5
   clear c5
   by_cases c6 : Xa < (Xc.length : Int)
   case neg =>
    rw [if_neg c6] at H
    exact absurd H (by simp)
   rw [if_pos c6] at H
   have X0 : decide (Xa < (Xc.length : Int)) = true := decide_eq_true c6
   clear c6
   by_cases c7 : Xa < (Xe.length : Int)
   case neg =>
    rw [if_neg c7] at H
    exact absurd H (by simp)
   rw [if_pos c7] at H
   have X1 : decide (Xa < (Xe.length : Int)) = true := decide_eq_true c7
   clear c7
   obtain ⟨ji8, hji8⟩ : ∃ j_ : Int, (mn (wrap64 ((rd Xc Xa) * (wrap64 ((rd Xe Xa) - 1)))) 0) = j_ := ⟨_, rfl⟩
   replace H : (section_ends.l0 k1 (wrap64 (Xu + (ji8))) (wrap64 (Xv + (mx (wrap64 ((rd Xc Xa) * (wrap64 ((rd Xe Xa) - 1)))) 0))) Xc (Xc.length : Int) (wrap64 (Xa + 1)) a0_0 Xe Xc) = some (r1, r2) := by first | (rw [hji8] at H; exact H) | (simp only [hji8] at H ⊢; exact H)
   have hji8_ : (if 0 < (wrap64 ((rd Xc Xa) * (wrap64 ((rd Xe Xa) - 1)))) then 0 else (wrap64 ((rd Xc Xa) * (wrap64 ((rd Xe Xa) - 1))))) = ji8 := hji8
   obtain ⟨ji9, hji9⟩ : ∃ j_ : Int, (mx (wrap64 ((rd Xc Xa) * (wrap64 ((rd Xe Xa) - 1)))) 0) = j_ := ⟨_, rfl⟩
   replace H : (section_ends.l0 k1 (wrap64 (Xu + (ji8))) (wrap64 (Xv + (ji9))) Xc (Xc.length : Int) (wrap64 (Xa + 1)) a0_0 Xe Xc) = some (r1, r2) := by first | (rw [hji9] at H; exact H) | (simp only [hji9] at H ⊢; exact H)
   have hji9_ : (if (wrap64 ((rd Xc Xa) * (wrap64 ((rd Xe Xa) - 1)))) < 0 then 0 else (wrap64 ((rd Xc Xa) * (wrap64 ((rd Xe Xa) - 1))))) = ji9 := hji9
   have H' := Aside0.mk H
   clear H
   have p120 : 0 ≤ (Xa : Int) := of_decide_eq_true (by first | (with_reducible assumption) | assumption)
   have q120 : Xa < (Xc.length : Int) := of_decide_eq_true (by first | (with_reducible assumption) | assumption)
   obtain ⟨ad120, e120, Xl⟩ := Kd.at_int XI.out Xa p120 q120
   cases e120
   replace Xl := (HB.out.cell (World.block_lt_of_cell? w _ Xl)).trans Xl
   replace p120 := eq_true p120
   replace q120 := eq_true q120
   have XL : wr.cell? ⟨Xd, 0, none⟩ = some (.int .i64 a0_0) := (blk_cell Xb.out 0).trans rfl
   have XM : wr.cell? ⟨Xd, 1, none⟩ = some (.slice Xh Xe.length Xi) := (blk_cell Xb.out 1).trans rfl
   have XN : wr.cell? ⟨Xd, 2, none⟩ = some (.slice (some ad120) Xc.length Xj) := (blk_cell Xb.out 2).trans rfl
   have XO := blk_frozen Xb.out 0
   have XP := blk_frozen Xb.out 1
   have XQ := blk_frozen Xb.out 2
   have p121 : 0 ≤ (Xa : Int) := of_decide_eq_true (by first | (with_reducible assumption) | assumption)
   have q121 : Xa < (Xe.length : Int) := of_decide_eq_true (by first | (with_reducible assumption) | assumption)
   obtain ⟨ad121, e121, Xm⟩ := Kd.at_int XH.out Xa p121 q121
   cases e121
   replace Xm := (HB.out.cell (World.block_lt_of_cell? w _ Xm)).trans Xm
   replace p121 := eq_true p121
   replace q121 := eq_true q121
   go_wp2
   repeat (go_quiet (fail); try go_wp2)
   go_roundg k1
   case measure => have := HK1.out; omega
   case rel => exact ⟨(wrap64 (Xu + (ji8))), (wrap64 (Xv + (ji9))), (wrap64 (Xa + 1)), (by first | rfl | (simp; done) | (simp only [← hji8] <;> (first | rfl | simp)) | (simp [*]; done)), (by first | rfl | (simp; done) | (simp only [← hji9] <;> (first | rfl | simp)) | (simp [*]; done)), (by first | rfl | (simp; done) | (simp [*]; done)), H', ⟨by have := HK1.out; omega⟩, ⟨by exact upB Xb.out⟩, ⟨by repeat (first | (with_reducible first | exact HB.out | apply upS | refine below_set ?_ Xn.out) | exact HB.out)⟩⟩

/-! ### slices_IndexFunc_g49: function 61 -/
def slices_IndexFunc_g49.l0 : Nat → List Int → Int → Int → Option (Int)
  | 0, _, _, _ => none
  | k + 1, x0, x7, x8 => if x8 < x7 then (if 0 ≤ x8 then (if x8 < (x0.length : Int) then ((section_Valid_1.f (rd x0 x8)).bind fun XA => (if XA = true then (some x8) else (slices_IndexFunc_g49.l0 k x0 x7 (wrap64 (x8 + 1))))) else (none)) else (none)) else (some (-1))
def slices_IndexFunc_g49.f (k : Nat) (l0 : List Int)  : Option (Int) := slices_IndexFunc_g49.l0 k l0 (l0.length : Int) 0
theorem slices_IndexFunc_g49.mono_l : ∀ k, (∀ y0 y1 y2, LeO (slices_IndexFunc_g49.l0 k y0 y1 y2) (slices_IndexFunc_g49.l0 (k + 1) y0 y1 y2))
  | 0 => fun _ _ _ r h => by simp [slices_IndexFunc_g49.l0] at h
  | k + 1 => by
    have ih0 := slices_IndexFunc_g49.mono_l k
    · intro y0 y1 y2
      unfold slices_IndexFunc_g49.l0
      repeat' first
      | (with_reducible exact ih0 _ _ _)
      | (with_reducible exact LeO.refl _)
      | (with_reducible exact LeO.none _)
      | (with_reducible refine LeO.ite ?_ ?_)
      | (with_reducible refine LeO.bind ?_ (fun _ => ?_))
      | exact ih0 _ _ _
      | exact LeO.none _
      | refine LeO.ite ?_ ?_
      | refine LeO.bind ?_ (fun _ => ?_)
theorem slices_IndexFunc_g49.mono : ∀ a0 k, LeO (slices_IndexFunc_g49.f k a0) (slices_IndexFunc_g49.f (k + 1) a0) := by
  intro a0 k
  have ih0 := slices_IndexFunc_g49.mono_l k
  unfold slices_IndexFunc_g49.f
  repeat' first
      | (with_reducible exact ih0 _ _ _)
      | (with_reducible exact LeO.refl _)
      | (with_reducible exact LeO.none _)
      | (with_reducible refine LeO.ite ?_ ?_)
      | (with_reducible refine LeO.bind ?_ (fun _ => ?_))
      | exact ih0 _ _ _
      | exact LeO.none _
      | refine LeO.ite ?_ ?_
      | refine LeO.bind ?_ (fun _ => ?_)
set_option maxHeartbeats 8000000 in
set_option maxRecDepth 100000 in
theorem slices_IndexFunc_g49.calls (k : Nat) (A0 : Option Addr) (c0 : Nat) (l0 : List Int)  (r : Int) (w : World) (hr0 : Kd.C (Kd.int .i64) w A0 l0.length l0) (hc0 : l0.length ≤ c0) (h : slices_IndexFunc_g49.f k l0 = some r) :
    Calls Try.prog 61 #[.slice A0 l0.length c0, .func (.func 49) #[] #[]] w fun e w' => e = .returned (.int .i64 r) ∧ Drawn0 w w' := by
  have XR := Aside0.mk hr0
  have XX := Aside0.mk hc0
  clear hr0 hc0
  have H : (slices_IndexFunc_g49.l0 k l0 (l0.length : Int) 0) = some r := h
  clear h
  have H' := Aside0.mk H
  clear H
  go_enter Try.func61, Try.ntmps61
  go_wp2
  go_loopg [8] k (fun kq v8 w' => ∃ (Xf : Int), v8 = .int .i64 Xf ∧ Aside0 (slices_IndexFunc_g49.l0 kq l0 (l0.length : Int) Xf = some r) ∧ Aside0 (kq ≤ k) ∧ Drawn0 w w')
  case atStart => exact ⟨(0), (by first | rfl | (simp; done) | (simp [*]; done)), H', ⟨Nat.le_refl _⟩, by repeat (first | exact Drawn0.refl _ | apply Drawn0.step)⟩
  clear H'
  try clear p2
  obtain ⟨Xf, rfl, HA, HK1, ⟨m1, rfl⟩⟩ := hrel
  cases gk with
  | zero => exact absurd HA.out (by simp [slices_IndexFunc_g49.l0])
  | succ k1 =>
   have H := HA.out
   clear HA
   simp only [slices_IndexFunc_g49.l0] at H
   by_cases c3 : Xf < (l0.length : Int)
   case neg =>
    rw [if_neg c3] at H
    have XT : decide (Xf < (l0.length : Int)) = false := decide_eq_false c3
    clear c3
    obtain rfl := Option.some.inj H
    go_wp2
    go_ret
    exact ⟨by first | rfl | (simp; done) | (simp [*]; done), by repeat (first | exact Drawn0.refl _ | apply Drawn0.step)⟩
   rw [if_pos c3] at H
   have XT : decide (Xf < (l0.length : Int)) = true := decide_eq_true c3
   clear c3
   by_cases c4 : 0 ≤ Xf
   case neg =>
    rw [if_neg c4] at H
    exact absurd H (by simp)
   rw [if_pos c4] at H
   have XJ : decide (0 ≤ Xf) = true := decide_eq_true c4
   clear c4
   by_cases c5 : Xf < (l0.length : Int)
   case neg =>
    rw [if_neg c5] at H
    exact absurd H (by simp)
   rw [if_pos c5] at H
   have XS : decide (Xf < (l0.length : Int)) = true := decide_eq_true c5
   clear c5
   replace H := Option.bind_eq_some_iff.mp H
   obtain ⟨XA, XY, H⟩ := H
   replace H : (if XA = true then (some Xf) else (slices_IndexFunc_g49.l0 k1 l0 (l0.length : Int) (wrap64 (Xf + 1)))) = some r := H
   have A6 := Aside0.mk XY
   clear XY
   by_cases c7 : XA = true
   case pos =>
    subst c7
    have H1 : (some Xf) = some r := by rw [if_pos rfl] at H; exact H
    clear H
    have H := H1
    clear H1
    obtain rfl := Option.some.inj H
    have p122 : 0 ≤ (Xf : Int) := of_decide_eq_true (by first | (with_reducible assumption) | assumption)
    have q122 : Xf < (l0.length : Int) := of_decide_eq_true (by first | (with_reducible assumption) | assumption)
    obtain ⟨ad122, e122, XB⟩ := Kd.at_int XR.out Xf p122 q122
    cases e122
    replace p122 := eq_true p122
    replace q122 := eq_true q122
    go_wp2_with (first | (go_at_call 49; (with_reducible refine (section_Valid_1.calls (rd l0 Xf) true _ A6.out).mono ?_); rintro e w' ⟨rfl, ⟨nd, rfl⟩⟩))
    go_ret
    exact ⟨by first | rfl | (simp; done) | (simp [*]; done), by repeat (first | exact Drawn0.refl _ | apply Drawn0.step)⟩
   replace c7 := Bool.eq_false_iff.mpr c7
   subst c7
   have H1 : (slices_IndexFunc_g49.l0 k1 l0 (l0.length : Int) (wrap64 (Xf + 1))) = some r := by rw [if_neg (show ¬ (false = true) by decide)] at H; exact H
   clear H
   have H := H1
   clear H1
   have H' := Aside0.mk H
   clear H
   have p122 : 0 ≤ (Xf : Int) := of_decide_eq_true (by first | (with_reducible assumption) | assumption)
   have q122 : Xf < (l0.length : Int) := of_decide_eq_true (by first | (with_reducible assumption) | assumption)
   obtain ⟨ad122, e122, XB⟩ := Kd.at_int XR.out Xf p122 q122
   cases e122
   replace p122 := eq_true p122
   replace q122 := eq_true q122
   go_wp2_with (first | (go_at_call 49; (with_reducible refine (section_Valid_1.calls (rd l0 Xf) false _ A6.out).mono ?_); rintro e w' ⟨rfl, ⟨nd, rfl⟩⟩))
   go_roundg k1
   case measure => have := HK1.out; omega
   case rel => exact ⟨(wrap64 (Xf + 1)), (by first | rfl | (simp; done) | (simp [*]; done)), H', ⟨by have := HK1.out; omega⟩, by repeat (first | exact Drawn0.refl _ | apply Drawn0.step)⟩

/-! ### slices_ContainsFunc_g49: function 48 -/
def slices_ContainsFunc_g49.f (k : Nat) (l0 : List Int)  : Option (Bool) := (slices_IndexFunc_g49.f k l0).bind fun Xw => (some (decide (Xw ≥ 0)))
theorem slices_ContainsFunc_g49.mono : ∀ a0 k, LeO (slices_ContainsFunc_g49.f k a0) (slices_ContainsFunc_g49.f (k + 1) a0) := by
  intro a0 k
  unfold slices_ContainsFunc_g49.f
  repeat' first
      | (with_reducible exact slices_IndexFunc_g49.mono _ _)
      | (with_reducible exact LeO.refl _)
      | (with_reducible exact LeO.none _)
      | (with_reducible refine LeO.ite ?_ ?_)
      | (with_reducible refine LeO.bind ?_ (fun _ => ?_))
      | exact slices_IndexFunc_g49.mono _ _
      | exact LeO.none _
      | refine LeO.ite ?_ ?_
      | refine LeO.bind ?_ (fun _ => ?_)
set_option maxHeartbeats 8000000 in
set_option maxRecDepth 100000 in
theorem slices_ContainsFunc_g49.calls (k : Nat) (A0 : Option Addr) (c0 : Nat) (l0 : List Int)  (r : Bool) (w : World) (hr0 : Kd.C (Kd.int .i64) w A0 l0.length l0) (hc0 : l0.length ≤ c0) (h : slices_ContainsFunc_g49.f k l0 = some r) :
    Calls Try.prog 48 #[.slice A0 l0.length c0, .func (.func 49) #[] #[]] w fun e w' => e = .returned (.bool r) ∧ Drawn0 w w' := by
  have XR := Aside0.mk hr0
  have XX := Aside0.mk hc0
  clear hr0 hc0
  have H : ((slices_IndexFunc_g49.f k l0).bind fun Xw => (some (decide (Xw ≥ 0)))) = some r := h
  clear h
  replace H := Option.bind_eq_some_iff.mp H
  obtain ⟨Xw, XZ, H⟩ := H
  replace H : (some (decide (Xw ≥ 0))) = some r := H
  have A3 := Aside0.mk XZ
  clear XZ
  obtain rfl := Option.some.inj H
  go_enter Try.func48, Try.ntmps48
  go_wp2_with (first | ((with_reducible refine gate_callee (f := 61) rfl ?_); refine goesL_ (some 7) rfl rfl Try.func61 (by kernel_rfl) rfl #[.slice A0 l0.length c0, .func (.func 49) #[] #[]] rfl (by (try simp only [List.map_toArray, List.map_cons, List.map_nil]); first | done | rfl | (simp only [List.length_drop, List.length_take]; rfl)) ?_; (with_reducible refine (slices_IndexFunc_g49.calls k _ _ l0  Xw _ ?side1 ?side2 A3.out).mono ?_); (case side1 => repeat (first | exact XR.out | (with_reducible refine Kd.C_alloc ?_ _) | (with_reducible refine Kd.C_drewN ?_ _) | (with_reducible refine Kd.C_drew ?_))); (case side2 => exact XX.out); rintro e w' ⟨rfl, ⟨nd, rfl⟩⟩; refine ⟨_, rfl, ?_⟩))
  go_ret
  exact ⟨by first | rfl | (simp; done) | (simp [*]; done), by repeat (first | exact Drawn0.refl _ | apply Drawn0.step)⟩

end Go.Proofs.Yticjlkommabcjaa.PS
