-- Printed by wip/qprint.py of this repository, over the kit's print, out of the translation. Not trusted: Lean checks it.
import Derived.Test.YticjlkommabcjaaPSx0
import Derived.Test.YticjlkommabcjaaPSx13
import Derived.Test.YticjlkommabcjaaUp
namespace Go.Proofs.Yticjlkommabcjaa.PS
open Go.RowKit Go.Proofs.YticjlkommabcjaaW.PrintWords Go.Proofs.YticjlkommabcjaaW.PrintLast Go.Proofs.YticjlkommabcjaaW.PrintMore
attribute [local go_sem] max2_int min2_int max_two min_two max_three min_three max_four min_four   -- for this text's walks alone
set_option linter.unusedVariables false
set_option linter.unusedSimpArgs false
set_option maxRecDepth 100000

/-! ### quadratref06_Transpose: function 36 -/
def quadratref06_Transpose.f (k : Nat) (a0_0 : Int) (Xb : List Int) (Xd : List Int) : Option (Int × List Int × List Int × Int) := (quadratref06_Valid.f k a0_0 Xb Xd).bind fun XK => (if XK = true then (if (Xb.length : Int) = 2 then (if 1 < (Xb.length : Int) then (if 0 < (Xb.length : Int) then (if 1 < (Xd.length : Int) then (if 0 < (Xd.length : Int) then (some (a0_0, (([rd Xb 1, rd Xb 0] : List Int)), (([rd Xd 1, rd Xd 0] : List Int)), 0)) else (none)) else (none)) else (none)) else (none)) else (some (0, ([] : List Int), ([] : List Int), 30))) else (some (0, ([] : List Int), ([] : List Int), 2)))
theorem quadratref06_Transpose.mono : ∀ a0 a1 a2 k, LeO (quadratref06_Transpose.f k a0 a1 a2) (quadratref06_Transpose.f (k + 1) a0 a1 a2) := by
  intro a0 a1 a2 k
  unfold quadratref06_Transpose.f
  repeat' first
      | (with_reducible exact quadratref06_Valid.mono _ _ _ _)
      | (with_reducible exact LeO.refl _)
      | (with_reducible exact LeO.none _)
      | (with_reducible refine LeO.ite ?_ ?_)
      | (with_reducible refine LeO.bind ?_ (fun _ => ?_))
      | exact quadratref06_Valid.mono _ _ _ _
      | exact LeO.none _
      | refine LeO.ite ?_ ?_
      | refine LeO.bind ?_ (fun _ => ?_)
def quadratref06_Transpose.T5 : Bool × List (List Nat × List Nat) := (true, [([], []), ([0], [0]), ([], []), ([2], [2]), ([3], [3]), ([4], [4]), ([], []), ([6], [6]), ([7], [7]), ([8], [8]), ([5, 9], [5, 9]), ([], []), ([11], [11]), ([12], [12]), ([13], [13]), ([], []), ([15], [15]), ([16], [16]), ([17], [17]), ([14, 18], [14, 18]), ([1, 10, 19], [1, 10, 19]), ([20, 0, 1, 2, 3, 4, 5, 6, 7, 8, 9, 10, 11, 12, 13, 14, 15, 16, 17, 18, 19, 20], [20]), ([21, 0, 1, 2, 3, 4, 5, 6, 7, 8, 9, 10, 11, 12, 13, 14, 15, 16, 17, 18, 19, 20, 21], [])])
def quadratref06_Transpose.B5 : List Nat := [0, 1, 0, 4, 12, 28, 0, 64, 192, 448, 1020, 0, 2048, 6144, 14336, 0, 32768, 98304, 229376, 522240, 1048575, 2097151, 4194303]
theorem quadratref06_Transpose.tab5 : rtab .any (opsOf Try.f36 5) = quadratref06_Transpose.T5 := by kernel_rfl
theorem quadratref06_Transpose.bits5 : waitsOk quadratref06_Transpose.T5.2 quadratref06_Transpose.B5 = true := by kernel_rfl
set_option maxHeartbeats 8000000 in
set_option maxRecDepth 100000 in
theorem quadratref06_Transpose.calls (k : Nat) (a0_0 : Int) (Xl : Option Addr) (Xg : Nat) (Xb : List Int) (Xm : Option Addr) (Xh : Nat) (Xd : List Int) (r1 : Int) (r2 : List Int) (r3 : List Int) (r4 : Int) (w : World) (hr0_1 : Kd.C (Kd.int .i64) w Xl Xb.length Xb) (hc0_1 : Xb.length ≤ Xg) (hr0_2 : Kd.C (Kd.int .i64) w Xm Xd.length Xd) (hc0_2 : Xd.length ≤ Xh) (h : quadratref06_Transpose.f k a0_0 Xb Xd = some (r1, r2, r3, r4)) :
    Calls Try.prog 36 #[.agg #[.int .i64 a0_0, .slice Xl Xb.length Xg, .slice Xm Xd.length Xh]] w fun e w' => ∃ v1_ v2_ : Value, e = .returned (.tuple #[.agg #[.int .i64 r1, v1_, v2_], .int .i64 r4]) ∧ Kd.R (Kd.int .i64) 3 w' w.heap.size (fun k_ => some k_ ≠ (v2_ : Value).ownBlock) v1_ r2 ∧ Kd.R (Kd.int .i64) 3 w' w.heap.size (fun k_ => some k_ ≠ (v1_ : Value).ownBlock) v2_ r3 ∧ Below w.heap.size w w' := by
  have hu31 := Try.underlying31
  have XC := Aside0.mk hr0_1
  have XL := Aside0.mk hc0_1
  clear hr0_1 hc0_1
  have XD := Aside0.mk hr0_2
  have XM := Aside0.mk hc0_2
  clear hr0_2 hc0_2
  have HB := Aside0.mk (Below.refl w.heap.size w)
  have H : ((quadratref06_Valid.f k a0_0 Xb Xd).bind fun XK => (if XK = true then (if (Xb.length : Int) = 2 then (if 1 < (Xb.length : Int) then (if 0 < (Xb.length : Int) then (if 1 < (Xd.length : Int) then (if 0 < (Xd.length : Int) then (some (a0_0, (([rd Xb 1, rd Xb 0] : List Int)), (([rd Xd 1, rd Xd 0] : List Int)), 0)) else (none)) else (none)) else (none)) else (none)) else (some (0, ([] : List Int), ([] : List Int), 30))) else (some (0, ([] : List Int), ([] : List Int), 2)))) = some (r1, r2, r3, r4) := h
  clear h
  replace H := Option.bind_eq_some_iff.mp H
  obtain ⟨XK, YZ, H⟩ := H
  replace H : (if XK = true then (if (Xb.length : Int) = 2 then (if 1 < (Xb.length : Int) then (if 0 < (Xb.length : Int) then (if 1 < (Xd.length : Int) then (if 0 < (Xd.length : Int) then (some (a0_0, (([rd Xb 1, rd Xb 0] : List Int)), (([rd Xd 1, rd Xd 0] : List Int)), 0)) else (none)) else (none)) else (none)) else (none)) else (some (0, ([] : List Int), ([] : List Int), 30))) else (some (0, ([] : List Int), ([] : List Int), 2))) = some (r1, r2, r3, r4) := H
  have A2 := Aside0.mk YZ
  clear YZ
  by_cases c3 : XK = true
  case neg =>
   replace c3 := Bool.eq_false_iff.mpr c3
   subst c3
   have H1 : (some (0, ([] : List Int), ([] : List Int), 2)) = some (r1, r2, r3, r4) := by rw [if_neg (show ¬ (false = true) by decide)] at H; exact H
   clear H
   have H := H1
   clear H1
   simp only [Option.some.injEq, Prod.mk.injEq] at H
   obtain ⟨rfl, rfl, rfl, rfl⟩ := H
   go_enter Try.func36, Try.ntmps36
   go_wp2_with (first | ((with_reducible refine gate_dst (N := 1) rfl ?_); refine box_event ?hg (N := 1) ?hd (cs := #[.int .i64 a0_0, .slice Xl Xb.length Xg, .slice Xm Xd.length Xh]) (t := 31) ?hr ?_; (case hd => rfl); (case hg => rfl); (case hr => first | (go_simp; done) | (go_simp; rfl)); intro Xe hg w35 hbox hb; have Xw := Aside0.mk (below_step (by exact upL HB.out) hb); have Xx := Aside0.mk (hbox); have Xy := Aside0.mk ((by rw [hg]; exact (below_size (by exact upL HB.out)) : w.heap.size ≤ Xe)); have XB := Aside0.mk ((by rw [hg]; exact (below_size (by exact upL HB.out)) : w.heap.size ≤ Xe)); clear HB; have HB := Xw; have Xa := Xx; have XR := Xy; have Xj := XB; clear Xw Xx Xy XB; clear hb hbox hg) | ((with_reducible refine gate_dst (N := 2) rfl ?_); refine box_event ?hg (N := 2) ?hd (cs := #[.int .i64 0, .slice none 0 0, .slice none 0 0]) (t := 31) ?hr ?_; (case hd => rfl); (case hg => rfl); (case hr => first | (go_simp; done) | (go_simp; rfl)); intro Xf hg w36 hbox hb; have Xw := Aside0.mk (blk_below (g := Xe) (o := .cells #[.int .i64 a0_0, .slice Xl Xb.length Xg, .slice Xm Xd.length Xh] 31 (0, 0)) (by exact upB Xa.out) hb); have Xx := Aside0.mk (below_step (by repeat (first | (with_reducible first | exact HB.out | apply upS | refine below_set ?_ Xj.out) | exact HB.out)) hb); have Xy := Aside0.mk (hbox); have XB := Aside0.mk ((by rw [hg]; exact (below_size (by repeat (first | (with_reducible first | exact HB.out | apply upS | refine below_set ?_ Xj.out) | exact HB.out))) : w.heap.size ≤ Xf)); have XS := Aside0.mk ((by rw [hg]; exact (below_size (by repeat (first | (with_reducible first | exact HB.out | apply upS | refine below_set ?_ Xj.out) | exact HB.out))) : w.heap.size ≤ Xf)); have XT := Aside0.mk ((by rw [hg]; exact Nat.ne_of_lt (blk_lt (g := Xe) (o := .cells #[.int .i64 a0_0, .slice Xl Xb.length Xg, .slice Xm Xd.length Xh] 31 (0, 0)) (by exact upB Xa.out)) : Xe ≠ Xf)); have XU := Aside0.mk ((by rw [hg]; exact Nat.ne_of_gt (blk_lt (g := Xe) (o := .cells #[.int .i64 a0_0, .slice Xl Xb.length Xg, .slice Xm Xd.length Xh] 31 (0, 0)) (by exact upB Xa.out)) : Xf ≠ Xe)); clear Xa; clear HB; have Xa := Xw; have HB := Xx; have Xc := Xy; have XV := XB; have Xn := XS; have Xi := XT; have Xk := XU; clear Xw Xx Xy XB XS XT XU; clear hb hbox hg; have Y0 := Xi.out; have Y1 := Xk.out; have Yd : w36.cell? ⟨Xe, 0, none⟩ = some (.int .i64 a0_0) := (blk_cell Xa.out 0).trans rfl; have Ye : w36.cell? ⟨Xe, 1, none⟩ = some (.slice Xl Xb.length Xg) := (blk_cell Xa.out 1).trans rfl; have Yf : w36.cell? ⟨Xe, 2, none⟩ = some (.slice Xm Xd.length Xh) := (blk_cell Xa.out 2).trans rfl; have Yg := blk_frozen Xa.out 0; have Yh := blk_frozen Xa.out 1; have Yi := blk_frozen Xa.out 2) | ((with_reducible refine gate_callee (f := 24) rfl ?_); refine goesL_ (some 6) rfl rfl Try.func24 (by kernel_rfl) rfl #[.agg #[.int .i64 a0_0, .slice Xl Xb.length Xg, .slice Xm Xd.length Xh]] rfl (by (try simp only [List.map_toArray, List.map_cons, List.map_nil]); first | done | rfl | (simp only [List.length_drop, List.length_take]; rfl)) ?_; (with_reducible refine (quadratref06_Valid.calls k a0_0 _ _ Xb _ _ Xd false _ ?side1 ?side2 ?side3 ?side4 A2.out).mono ?_); (case side1 => repeat (first | exact (Kd.C_below XC.out HB.out) | (with_reducible refine Kd.C_alloc ?_ _) | (with_reducible refine Kd.C_drewN ?_ _) | (with_reducible refine Kd.C_drew ?_))); (case side2 => exact XL.out); (case side3 => repeat (first | exact (Kd.C_below XD.out HB.out) | (with_reducible refine Kd.C_alloc ?_ _) | (with_reducible refine Kd.C_drewN ?_ _) | (with_reducible refine Kd.C_drew ?_))); (case side4 => exact XM.out); rintro e w39 ⟨rfl, hb⟩; refine ⟨_, rfl, ?_⟩; have Xw := Aside0.mk (blk_below (g := Xe) (o := .cells #[.int .i64 a0_0, .slice Xl Xb.length Xg, .slice Xm Xd.length Xh] 31 (0, 0)) (by exact upB Xa.out) hb); have Xx := Aside0.mk (blk_below (g := Xf) (o := .cells #[.int .i64 0, .slice none 0 0, .slice none 0 0] 31 (0, 0)) (by exact upB Xc.out) hb); have Xy := Aside0.mk (below_step (by repeat (first | (with_reducible first | exact HB.out | apply upS | refine below_set ?_ Xj.out | refine below_set ?_ Xn.out) | exact HB.out)) hb); clear Xa; clear Xc; clear HB; have Xa := Xw; have Xc := Xx; have HB := Xy; clear Xw Xx Xy; (try clear hb); (try clear Y2); (try clear hk); (try clear hi); have Yj : w39.cell? ⟨Xf, 0, none⟩ = some (.int .i64 0) := (blk_cell Xc.out 0).trans rfl; have Yk : w39.cell? ⟨Xf, 1, none⟩ = some (.slice none 0 0) := (blk_cell Xc.out 1).trans rfl; have Yl : w39.cell? ⟨Xf, 2, none⟩ = some (.slice none 0 0) := (blk_cell Xc.out 2).trans rfl; have Ym := blk_frozen Xc.out 0; have Yn := blk_frozen Xc.out 1; have Yo := blk_frozen Xc.out 2))
   refine bodyPost_ret (results_ct rfl _ _ Xf 31 #[.int .i64 0, .slice none 0 0, .slice none 0 0] (0, 0) _ rfl (by (with_reducible repeat apply upF); refine blk_put (cs := #[.int .i64 0, .slice none 0 0, .slice none 0 0]) ?_ 2 _ rfl; (with_reducible repeat apply upF); refine blk_put (cs := #[.int .i64 0, .slice none 0 0, .slice none 0 0]) ?_ 1 _ rfl; (with_reducible repeat apply upF); refine blk_put (cs := #[.int .i64 0, .slice none 0 0, .slice none 0 0]) ?_ 0 _ rfl; exact upB Xc.out) Try.underlying31 rfl (by kernel_rfl)) rfl ?_
   exact ⟨_, _, by first | rfl | (simp [errW_none, errW_some] <;> rfl) | (simp [*, errW_none, errW_some] <;> rfl), by first | exact Kd.R_nil _ _ _ _ _ | exact Kd.N_nil _ _ _ _ _ | exact Kd.V_nil _ _ _ _ _ | exact Kd.Q_nil _ _ _ _ _ | exact Kd.S_nil _ _ _ _ _, by first | exact Kd.R_nil _ _ _ _ _ | exact Kd.N_nil _ _ _ _ _ | exact Kd.V_nil _ _ _ _ _ | exact Kd.Q_nil _ _ _ _ _ | exact Kd.S_nil _ _ _ _ _, by repeat (first | (with_reducible first | exact HB.out | apply upS | refine below_set ?_ Xj.out | refine below_set ?_ Xn.out) | exact HB.out)⟩
  subst c3
  have H1 : (if (Xb.length : Int) = 2 then (if 1 < (Xb.length : Int) then (if 0 < (Xb.length : Int) then (if 1 < (Xd.length : Int) then (if 0 < (Xd.length : Int) then (some (a0_0, (([rd Xb 1, rd Xb 0] : List Int)), (([rd Xd 1, rd Xd 0] : List Int)), 0)) else (none)) else (none)) else (none)) else (none)) else (some (0, ([] : List Int), ([] : List Int), 30))) = some (r1, r2, r3, r4) := by rw [if_pos rfl] at H; exact H
  clear H
  have H := H1
  clear H1
  by_cases c4 : (Xb.length : Int) = 2
  case neg =>
   rw [if_neg c4] at H
   have YT : ((Xb.length : Int) == 2) = false := beq_eq_false_iff_ne.mpr c4
   have YU : ((Xb.length : Int) != 2) = true := bne_iff_ne.mpr c4
   simp only [Option.some.injEq, Prod.mk.injEq] at H
   obtain ⟨rfl, rfl, rfl, rfl⟩ := H
   go_enter Try.func36, Try.ntmps36
   go_wp2_with (first | ((with_reducible refine gate_dst (N := 1) rfl ?_); refine box_event ?hg (N := 1) ?hd (cs := #[.int .i64 a0_0, .slice Xl Xb.length Xg, .slice Xm Xd.length Xh]) (t := 31) ?hr ?_; (case hd => rfl); (case hg => rfl); (case hr => first | (go_simp; done) | (go_simp; rfl)); intro Xe hg w28 hbox hb; have Xw := Aside0.mk (below_step (by exact upL HB.out) hb); have Xx := Aside0.mk (hbox); have Xy := Aside0.mk ((by rw [hg]; exact (below_size (by exact upL HB.out)) : w.heap.size ≤ Xe)); have XB := Aside0.mk ((by rw [hg]; exact (below_size (by exact upL HB.out)) : w.heap.size ≤ Xe)); clear HB; have HB := Xw; have Xa := Xx; have XR := Xy; have Xj := XB; clear Xw Xx Xy XB; clear hb hbox hg) | ((with_reducible refine gate_dst (N := 2) rfl ?_); refine box_event ?hg (N := 2) ?hd (cs := #[.int .i64 0, .slice none 0 0, .slice none 0 0]) (t := 31) ?hr ?_; (case hd => rfl); (case hg => rfl); (case hr => first | (go_simp; done) | (go_simp; rfl)); intro Xf hg w29 hbox hb; have Xw := Aside0.mk (blk_below (g := Xe) (o := .cells #[.int .i64 a0_0, .slice Xl Xb.length Xg, .slice Xm Xd.length Xh] 31 (0, 0)) (by exact upB Xa.out) hb); have Xx := Aside0.mk (below_step (by repeat (first | (with_reducible first | exact HB.out | apply upS | refine below_set ?_ Xj.out) | exact HB.out)) hb); have Xy := Aside0.mk (hbox); have XB := Aside0.mk ((by rw [hg]; exact (below_size (by repeat (first | (with_reducible first | exact HB.out | apply upS | refine below_set ?_ Xj.out) | exact HB.out))) : w.heap.size ≤ Xf)); have XS := Aside0.mk ((by rw [hg]; exact (below_size (by repeat (first | (with_reducible first | exact HB.out | apply upS | refine below_set ?_ Xj.out) | exact HB.out))) : w.heap.size ≤ Xf)); have XT := Aside0.mk ((by rw [hg]; exact Nat.ne_of_lt (blk_lt (g := Xe) (o := .cells #[.int .i64 a0_0, .slice Xl Xb.length Xg, .slice Xm Xd.length Xh] 31 (0, 0)) (by exact upB Xa.out)) : Xe ≠ Xf)); have XU := Aside0.mk ((by rw [hg]; exact Nat.ne_of_gt (blk_lt (g := Xe) (o := .cells #[.int .i64 a0_0, .slice Xl Xb.length Xg, .slice Xm Xd.length Xh] 31 (0, 0)) (by exact upB Xa.out)) : Xf ≠ Xe)); clear Xa; clear HB; have Xa := Xw; have HB := Xx; have Xc := Xy; have XV := XB; have Xn := XS; have Xi := XT; have Xk := XU; clear Xw Xx Xy XB XS XT XU; clear hb hbox hg; have Y3 := Xi.out; have Y4 := Xk.out; have Yp : w29.cell? ⟨Xe, 0, none⟩ = some (.int .i64 a0_0) := (blk_cell Xa.out 0).trans rfl; have Yq : w29.cell? ⟨Xe, 1, none⟩ = some (.slice Xl Xb.length Xg) := (blk_cell Xa.out 1).trans rfl; have Yr : w29.cell? ⟨Xe, 2, none⟩ = some (.slice Xm Xd.length Xh) := (blk_cell Xa.out 2).trans rfl; have Ys := blk_frozen Xa.out 0; have Yt := blk_frozen Xa.out 1; have Yu := blk_frozen Xa.out 2) | ((with_reducible refine gate_callee (f := 24) rfl ?_); refine goesL_ (some 6) rfl rfl Try.func24 (by kernel_rfl) rfl #[.agg #[.int .i64 a0_0, .slice Xl Xb.length Xg, .slice Xm Xd.length Xh]] rfl (by (try simp only [List.map_toArray, List.map_cons, List.map_nil]); first | done | rfl | (simp only [List.length_drop, List.length_take]; rfl)) ?_; (with_reducible refine (quadratref06_Valid.calls k a0_0 _ _ Xb _ _ Xd true _ ?side1 ?side2 ?side3 ?side4 A2.out).mono ?_); (case side1 => repeat (first | exact (Kd.C_below XC.out HB.out) | (with_reducible refine Kd.C_alloc ?_ _) | (with_reducible refine Kd.C_drewN ?_ _) | (with_reducible refine Kd.C_drew ?_))); (case side2 => exact XL.out); (case side3 => repeat (first | exact (Kd.C_below XD.out HB.out) | (with_reducible refine Kd.C_alloc ?_ _) | (with_reducible refine Kd.C_drewN ?_ _) | (with_reducible refine Kd.C_drew ?_))); (case side4 => exact XM.out); rintro e w32 ⟨rfl, hb⟩; refine ⟨_, rfl, ?_⟩; have Xw := Aside0.mk (blk_below (g := Xe) (o := .cells #[.int .i64 a0_0, .slice Xl Xb.length Xg, .slice Xm Xd.length Xh] 31 (0, 0)) (by exact upB Xa.out) hb); have Xx := Aside0.mk (blk_below (g := Xf) (o := .cells #[.int .i64 0, .slice none 0 0, .slice none 0 0] 31 (0, 0)) (by exact upB Xc.out) hb); have Xy := Aside0.mk (below_step (by repeat (first | (with_reducible first | exact HB.out | apply upS | refine below_set ?_ Xj.out | refine below_set ?_ Xn.out) | exact HB.out)) hb); clear Xa; clear Xc; clear HB; have Xa := Xw; have Xc := Xx; have HB := Xy; clear Xw Xx Xy; (try clear hb); (try clear Y2); (try clear hk); (try clear hi); have Yv : w32.cell? ⟨Xe, 0, none⟩ = some (.int .i64 a0_0) := (blk_cell Xa.out 0).trans rfl; have Yw : w32.cell? ⟨Xe, 1, none⟩ = some (.slice Xl Xb.length Xg) := (blk_cell Xa.out 1).trans rfl; have Yx : w32.cell? ⟨Xe, 2, none⟩ = some (.slice Xm Xd.length Xh) := (blk_cell Xa.out 2).trans rfl; have Yy := blk_frozen Xa.out 0; have Yz := blk_frozen Xa.out 1; have YA := blk_frozen Xa.out 2; have YB : w32.cell? ⟨Xf, 0, none⟩ = some (.int .i64 0) := (blk_cell Xc.out 0).trans rfl; have YC : w32.cell? ⟨Xf, 1, none⟩ = some (.slice none 0 0) := (blk_cell Xc.out 1).trans rfl; have YD : w32.cell? ⟨Xf, 2, none⟩ = some (.slice none 0 0) := (blk_cell Xc.out 2).trans rfl; have YE := blk_frozen Xc.out 0; have YF := blk_frozen Xc.out 1; have YG := blk_frozen Xc.out 2))
   refine bodyPost_ret (results_ct rfl _ _ Xf 31 #[.int .i64 0, .slice none 0 0, .slice none 0 0] (0, 0) _ rfl (by (with_reducible repeat apply upF); refine blk_put (cs := #[.int .i64 0, .slice none 0 0, .slice none 0 0]) ?_ 2 _ rfl; (with_reducible repeat apply upF); refine blk_put (cs := #[.int .i64 0, .slice none 0 0, .slice none 0 0]) ?_ 1 _ rfl; (with_reducible repeat apply upF); refine blk_put (cs := #[.int .i64 0, .slice none 0 0, .slice none 0 0]) ?_ 0 _ rfl; exact upB Xc.out) Try.underlying31 rfl (by kernel_rfl)) rfl ?_
   exact ⟨_, _, by first | rfl | (simp [errW_none, errW_some] <;> rfl) | (simp [*, errW_none, errW_some] <;> rfl), by first | exact Kd.R_nil _ _ _ _ _ | exact Kd.N_nil _ _ _ _ _ | exact Kd.V_nil _ _ _ _ _ | exact Kd.Q_nil _ _ _ _ _ | exact Kd.S_nil _ _ _ _ _, by first | exact Kd.R_nil _ _ _ _ _ | exact Kd.N_nil _ _ _ _ _ | exact Kd.V_nil _ _ _ _ _ | exact Kd.Q_nil _ _ _ _ _ | exact Kd.S_nil _ _ _ _ _, by repeat (first | (with_reducible first | exact HB.out | apply upS | refine below_set ?_ Xj.out | refine below_set ?_ Xn.out) | exact HB.out)⟩
  rw [if_pos c4] at H
  have YT : ((Xb.length : Int) == 2) = true := beq_iff_eq.mpr c4
  have YU : ((Xb.length : Int) != 2) = false := bne_eq_false_iff_eq.mpr c4
  clear c4
  by_cases c5 : 1 < (Xb.length : Int)
  case neg =>
   rw [if_neg c5] at H
   exact absurd H (by simp)
  rw [if_pos c5] at H
  have Y7 : decide (1 < (Xb.length : Int)) = true := decide_eq_true c5
  have Y8 : decide (1 < Xb.length) = true := decide_eq_true (by omega)
  clear c5
  by_cases c6 : 0 < (Xb.length : Int)
  case neg =>
   rw [if_neg c6] at H
   exact absurd H (by simp)
  rw [if_pos c6] at H
  have Y9 : decide (0 < (Xb.length : Int)) = true := decide_eq_true c6
  have Za : decide (0 < Xb.length) = true := decide_eq_true (by omega)
  clear c6
  obtain ⟨y460, hy460⟩ : ∃ y_ : List Int, y_ = (([rd Xb 1, rd Xb 0] : List Int)) := ⟨_, rfl⟩
  replace H : (if 1 < (Xd.length : Int) then (if 0 < (Xd.length : Int) then (some (a0_0, y460, (([rd Xd 1, rd Xd 0] : List Int)), 0)) else (none)) else (none)) = some (r1, r2, r3, r4) := by first | (rw [hy460]; with_reducible exact H) | (have X3 := (Option.bind_some _ _).symm.trans H; rw [hy460]; with_reducible exact X3) | (have X3 := (Option.bind_some _ _).symm.trans H; with_reducible exact X3) | with_reducible exact H | (rw [hy460]; exact H) | exact H
  have Ny460 := Aside0.mk hy460
  clear hy460
  by_cases c7 : 1 < (Xd.length : Int)
  case neg =>
   rw [if_neg c7] at H
   exact absurd H (by simp)
  rw [if_pos c7] at H
  have Zb : decide (1 < (Xd.length : Int)) = true := decide_eq_true c7
  have Zc : decide (1 < Xd.length) = true := decide_eq_true (by omega)
  clear c7
  by_cases c8 : 0 < (Xd.length : Int)
  case neg =>
   rw [if_neg c8] at H
   exact absurd H (by simp)
  rw [if_pos c8] at H
  have Zd : decide (0 < (Xd.length : Int)) = true := decide_eq_true c8
  have Ze : decide (0 < Xd.length) = true := decide_eq_true (by omega)
  clear c8
  obtain ⟨y465, hy465⟩ : ∃ y_ : List Int, y_ = (([rd Xd 1, rd Xd 0] : List Int)) := ⟨_, rfl⟩
  replace H : (some (a0_0, y460, y465, 0)) = some (r1, r2, r3, r4) := by first | (rw [hy465]; with_reducible exact H) | (have X3 := (Option.bind_some _ _).symm.trans H; rw [hy465]; with_reducible exact X3) | (have X3 := (Option.bind_some _ _).symm.trans H; with_reducible exact X3) | with_reducible exact H | (rw [hy465]; exact H) | exact H
  have Ny465 := Aside0.mk hy465
  clear hy465
  simp only [Option.some.injEq, Prod.mk.injEq] at H
  obtain ⟨rfl, rfl, rfl, rfl⟩ := H
  go_enter Try.func36, Try.ntmps36
  try go_wp2_with (first | ((with_reducible refine gate_dst (N := 1) rfl ?_); refine box_event ?hg (N := 1) ?hd (cs := #[.int .i64 a0_0, .slice Xl Xb.length Xg, .slice Xm Xd.length Xh]) (t := 31) ?hr ?_; (case hd => rfl); (case hg => rfl); (case hr => first | (go_simp; done) | (go_simp; rfl)); intro Xe hg w9 hbox hb; have Xw := Aside0.mk (below_step (by exact upL HB.out) hb); have Xx := Aside0.mk (hbox); have Xy := Aside0.mk ((by rw [hg]; exact (below_size (by exact upL HB.out)) : w.heap.size ≤ Xe)); have XB := Aside0.mk ((by rw [hg]; exact (below_size (by exact upL HB.out)) : w.heap.size ≤ Xe)); clear HB; have HB := Xw; have Xa := Xx; have XR := Xy; have Xj := XB; clear Xw Xx Xy XB; clear hb hbox hg) | ((with_reducible refine gate_dst (N := 2) rfl ?_); refine box_event ?hg (N := 2) ?hd (cs := #[.int .i64 0, .slice none 0 0, .slice none 0 0]) (t := 31) ?hr ?_; (case hd => rfl); (case hg => rfl); (case hr => first | (go_simp; done) | (go_simp; rfl)); intro Xf hg w10 hbox hb; have Xw := Aside0.mk (blk_below (g := Xe) (o := .cells #[.int .i64 a0_0, .slice Xl Xb.length Xg, .slice Xm Xd.length Xh] 31 (0, 0)) (by exact upB Xa.out) hb); have Xx := Aside0.mk (below_step (by repeat (first | (with_reducible first | exact HB.out | apply upS | refine below_set ?_ Xj.out) | exact HB.out)) hb); have Xy := Aside0.mk (hbox); have XB := Aside0.mk ((by rw [hg]; exact (below_size (by repeat (first | (with_reducible first | exact HB.out | apply upS | refine below_set ?_ Xj.out) | exact HB.out))) : w.heap.size ≤ Xf)); have XS := Aside0.mk ((by rw [hg]; exact (below_size (by repeat (first | (with_reducible first | exact HB.out | apply upS | refine below_set ?_ Xj.out) | exact HB.out))) : w.heap.size ≤ Xf)); have XT := Aside0.mk ((by rw [hg]; exact Nat.ne_of_lt (blk_lt (g := Xe) (o := .cells #[.int .i64 a0_0, .slice Xl Xb.length Xg, .slice Xm Xd.length Xh] 31 (0, 0)) (by exact upB Xa.out)) : Xe ≠ Xf)); have XU := Aside0.mk ((by rw [hg]; exact Nat.ne_of_gt (blk_lt (g := Xe) (o := .cells #[.int .i64 a0_0, .slice Xl Xb.length Xg, .slice Xm Xd.length Xh] 31 (0, 0)) (by exact upB Xa.out)) : Xf ≠ Xe)); clear Xa; clear HB; have Xa := Xw; have HB := Xx; have Xc := Xy; have XV := XB; have Xn := XS; have Xi := XT; have Xk := XU; clear Xw Xx Xy XB XS XT XU; clear hb hbox hg; have Y5 := Xi.out; have Y6 := Xk.out; have YH : w10.cell? ⟨Xe, 0, none⟩ = some (.int .i64 a0_0) := (blk_cell Xa.out 0).trans rfl; have YI : w10.cell? ⟨Xe, 1, none⟩ = some (.slice Xl Xb.length Xg) := (blk_cell Xa.out 1).trans rfl; have YJ : w10.cell? ⟨Xe, 2, none⟩ = some (.slice Xm Xd.length Xh) := (blk_cell Xa.out 2).trans rfl; have YK := blk_frozen Xa.out 0; have YL := blk_frozen Xa.out 1; have YM := blk_frozen Xa.out 2) | ((with_reducible refine gate_callee (f := 24) rfl ?_); refine goesL_ (some 6) rfl rfl Try.func24 (by kernel_rfl) rfl #[.agg #[.int .i64 a0_0, .slice Xl Xb.length Xg, .slice Xm Xd.length Xh]] rfl (by (try simp only [List.map_toArray, List.map_cons, List.map_nil]); first | done | rfl | (simp only [List.length_drop, List.length_take]; rfl)) ?_; (with_reducible refine (quadratref06_Valid.calls k a0_0 _ _ Xb _ _ Xd true _ ?side1 ?side2 ?side3 ?side4 A2.out).mono ?_); (case side1 => repeat (first | exact (Kd.C_below XC.out HB.out) | (with_reducible refine Kd.C_alloc ?_ _) | (with_reducible refine Kd.C_drewN ?_ _) | (with_reducible refine Kd.C_drew ?_))); (case side2 => exact XL.out); (case side3 => repeat (first | exact (Kd.C_below XD.out HB.out) | (with_reducible refine Kd.C_alloc ?_ _) | (with_reducible refine Kd.C_drewN ?_ _) | (with_reducible refine Kd.C_drew ?_))); (case side4 => exact XM.out); rintro e w13 ⟨rfl, hb⟩; refine ⟨_, rfl, ?_⟩; have Xw := Aside0.mk (blk_below (g := Xe) (o := .cells #[.int .i64 a0_0, .slice Xl Xb.length Xg, .slice Xm Xd.length Xh] 31 (0, 0)) (by exact upB Xa.out) hb); have Xx := Aside0.mk (blk_below (g := Xf) (o := .cells #[.int .i64 0, .slice none 0 0, .slice none 0 0] 31 (0, 0)) (by exact upB Xc.out) hb); have Xy := Aside0.mk (below_step (by repeat (first | (with_reducible first | exact HB.out | apply upS | refine below_set ?_ Xj.out | refine below_set ?_ Xn.out) | exact HB.out)) hb); clear Xa; clear Xc; clear HB; have Xa := Xw; have Xc := Xx; have HB := Xy; clear Xw Xx Xy; (try clear hb); (try clear Y2); (try clear hk); (try clear hi); have YN : w13.cell? ⟨Xe, 0, none⟩ = some (.int .i64 a0_0) := (blk_cell Xa.out 0).trans rfl; have YO : w13.cell? ⟨Xe, 1, none⟩ = some (.slice Xl Xb.length Xg) := (blk_cell Xa.out 1).trans rfl; have YP : w13.cell? ⟨Xe, 2, none⟩ = some (.slice Xm Xd.length Xh) := (blk_cell Xa.out 2).trans rfl; have YQ := blk_frozen Xa.out 0; have YR := blk_frozen Xa.out 1; have YS := blk_frozen Xa.out 2))
  have Xw := Aside0.mk (blk_drew Xa.out)
  have Xx := Aside0.mk (blk_drew Xc.out)
  have Xy := Aside0.mk (below_drew1 HB.out)
  clear Xa
  clear Xc
  clear HB
  have Xa := Xw
  have Xc := Xx
  have HB := Xy
  clear Xw Xx Xy
  have p458 : 0 ≤ (1 : Int) := (by omega)
  have q458 : 1 < (Xb.length : Int) := of_decide_eq_true (by first | (with_reducible assumption) | assumption)
  obtain ⟨ad458, e458, Xo⟩ := Kd.at_int XC.out 1 p458 q458
  have Xp := Xo
  (try rw [show ((1 : Int)).toNat = 1 from rfl] at Xp)
  (try rw [show 1 * 1 = 1 from rfl] at Xp)
  (try simp only [Nat.reduceMul, Nat.reduceEqDiff, Go.Addr.add, ↓reduceIte] at Xp)
  cases e458
  (try simp only [show (1 : Int).toNat = 1 from rfl, Nat.reduceMul, Nat.reduceEqDiff, Go.Addr.add, ↓reduceIte] at Xo)
  have qi458 : (1 < Xb.length) = True := eq_true (by omega)
  (try rw [show ((1 : Int)).toNat = 1 from rfl] at Xo)
  replace Xo := (HB.out.cell (World.block_lt_of_cell? w _ Xo)).trans Xo
  replace p458 := eq_true p458
  replace q458 := eq_true q458
  have p459 : 0 ≤ (0 : Int) := (by omega)
  have q459 : 0 < (Xb.length : Int) := of_decide_eq_true (by first | (with_reducible assumption) | assumption)
  obtain ⟨ad459, e459, Xq⟩ := Kd.at_int XC.out 0 p459 q459
  have Xr := Xq
  (try rw [show ((0 : Int)).toNat = 0 from rfl] at Xr)
  (try rw [show 0 * 1 = 0 from rfl] at Xr)
  (try rw [Addr.add_zero'] at Xr)
  obtain rfl : ad458 = ad459 := (by injection e459)
  have qi459 : (0 < Xb.length) = True := eq_true (by omega)
  (try rw [show ((0 : Int)).toNat = 0 from rfl] at Xq)
  (try rw [Addr.add_zero'] at Xq)
  replace Xq := (HB.out.cell (World.block_lt_of_cell? w _ Xq)).trans Xq
  replace p459 := eq_true p459
  replace q459 := eq_true q459
  have p463 : 0 ≤ (1 : Int) := (by omega)
  have q463 : 1 < (Xd.length : Int) := of_decide_eq_true (by first | (with_reducible assumption) | assumption)
  obtain ⟨ad463, e463, Xs⟩ := Kd.at_int XD.out 1 p463 q463
  have Xt := Xs
  (try rw [show ((1 : Int)).toNat = 1 from rfl] at Xt)
  (try rw [show 1 * 1 = 1 from rfl] at Xt)
  (try simp only [Nat.reduceMul, Nat.reduceEqDiff, Go.Addr.add, ↓reduceIte] at Xt)
  cases e463
  (try simp only [show (1 : Int).toNat = 1 from rfl, Nat.reduceMul, Nat.reduceEqDiff, Go.Addr.add, ↓reduceIte] at Xs)
  have qi463 : (1 < Xd.length) = True := eq_true (by omega)
  (try rw [show ((1 : Int)).toNat = 1 from rfl] at Xs)
  replace Xs := (HB.out.cell (World.block_lt_of_cell? w _ Xs)).trans Xs
  replace p463 := eq_true p463
  replace q463 := eq_true q463
  have p464 : 0 ≤ (0 : Int) := (by omega)
  have q464 : 0 < (Xd.length : Int) := of_decide_eq_true (by first | (with_reducible assumption) | assumption)
  obtain ⟨ad464, e464, Xu⟩ := Kd.at_int XD.out 0 p464 q464
  have Xv := Xu
  (try rw [show ((0 : Int)).toNat = 0 from rfl] at Xv)
  (try rw [show 0 * 1 = 0 from rfl] at Xv)
  (try rw [Addr.add_zero'] at Xv)
  obtain rfl : ad463 = ad464 := (by injection e464)
  have qi464 : (0 < Xd.length) = True := eq_true (by omega)
  (try rw [show ((0 : Int)).toNat = 0 from rfl] at Xu)
  (try rw [Addr.add_zero'] at Xu)
  replace Xu := (HB.out.cell (World.block_lt_of_cell? w _ Xu)).trans Xu
  replace p464 := eq_true p464
  replace q464 := eq_true q464
  refine start_ (n := 23) (S := fun w' => True) (ds := []) #[false, false, false, false, false, false, false, false, false, false, false, false, false, false, false, false, false, false, false, false, false, false, false] (by kernel_rfl) rfl rfl trivial (fun hHeld => ?_); refine with_tabW quadratref06_Transpose.tab5 quadratref06_Transpose.bits5 (fun HT_ HW_ => ?_)
  generalize w13.drew = w15 at Xa Xc HB Xo Xq Xs Xu hHeld ⊢
  refine pure_ (i := 0) (N := some 15) (v := ?_) (a' := ?_) #[true, false, false, false, false, false, false, false, false, false, false, false, false, false, false, false, false, false, false, false, false, false, false] rfl rfl (any_of HT_.out (by kernel_rfl)) (fun _ _ _ h => h) (Or.inl ⟨by rfl, ?_⟩) ?_ ?_
  rotate_left
  · intro w'; go_simp; with_reducible rfl
  rotate_left
  · simp only [Act.put, List.setIfInBounds_toArray, List.set_cons_zero, List.set_cons_succ, i64_w, i32_w]; rfl
  refine pure_ (i := 2) (N := some 17) (v := ?_) (a' := ?_) #[true, false, true, false, false, false, false, false, false, false, false, false, false, false, false, false, false, false, false, false, false, false, false] rfl rfl (any_of HT_.out (by kernel_rfl)) (fun _ _ _ h => h) (Or.inl ⟨by rfl, ?_⟩) ?_ ?_
  rotate_left
  · intro w'; go_simp; with_reducible rfl
  rotate_left
  · simp only [Act.put, List.setIfInBounds_toArray, List.set_cons_zero, List.set_cons_succ, i64_w, i32_w]; rfl
  refine pure_ (i := 6) (N := some 21) (v := ?_) (a' := ?_) #[true, false, true, false, false, false, true, false, false, false, false, false, false, false, false, false, false, false, false, false, false, false, false] rfl rfl (any_of HT_.out (by kernel_rfl)) (fun _ _ _ h => h) (Or.inl ⟨by rfl, ?_⟩) ?_ ?_
  rotate_left
  · intro w'; go_simp; with_reducible rfl
  rotate_left
  · simp only [Act.put, List.setIfInBounds_toArray, List.set_cons_zero, List.set_cons_succ, i64_w, i32_w]; rfl
  refine pure_ (i := 11) (N := some 26) (v := ?_) (a' := ?_) #[true, false, true, false, false, false, true, false, false, false, false, true, false, false, false, false, false, false, false, false, false, false, false] rfl rfl (any_of HT_.out (by kernel_rfl)) (fun _ _ _ h => h) (Or.inl ⟨by rfl, ?_⟩) ?_ ?_
  rotate_left
  · intro w'; go_simp; with_reducible rfl
  rotate_left
  · simp only [Act.put, List.setIfInBounds_toArray, List.set_cons_zero, List.set_cons_succ, i64_w, i32_w]; rfl
  refine pure_ (i := 15) (N := some 30) (v := ?_) (a' := ?_) #[true, false, true, false, false, false, true, false, false, false, false, true, false, false, false, true, false, false, false, false, false, false, false] rfl rfl (any_of HT_.out (by kernel_rfl)) (fun _ _ _ h => h) (Or.inl ⟨by rfl, ?_⟩) ?_ ?_
  rotate_left
  · intro w'; go_simp; with_reducible rfl
  rotate_left
  · simp only [Act.put, List.setIfInBounds_toArray, List.set_cons_zero, List.set_cons_succ, i64_w, i32_w]; rfl
  refine inv_at [1, 3, 4, 5, 7, 8, 9, 10, 12, 13, 14, 16, 17, 18, 19, 20, 21, 22] (fun a0_ b a w' => ∃ (v461 : Value) (v466 : Value) (m20_ : Value), a = putSel a0_ b [(1, 16, .int .i64 a0_0), (3, 18, .slice (some ad458) Xb.length Xg), (4, 19, .pointer (some (ad458.add 1))), (5, 20, .int .i64 (rd Xb 1)), (7, 22, .slice (some ad458) Xb.length Xg), (8, 23, .pointer (some ad458)), (9, 24, .int .i64 (rd Xb 0)), (10, 25, v461), (12, 27, .slice (some ad463) Xd.length Xh), (13, 28, .pointer (some (ad463.add 1))), (14, 29, .int .i64 (rd Xd 1)), (16, 31, .slice (some ad463) Xd.length Xh), (17, 32, .pointer (some ad463)), (18, 33, .int .i64 (rd Xd 0)), (19, 34, v466), (20, 35, m20_), (22, 3, .int .i64 0)] ∧ (w'.heap[Xe]? = some (.cells #[.int .i64 a0_0, .slice (some ad458) Xb.length Xg, .slice (some ad463) Xd.length Xh] 31 (0, 0))) ∧ (b 21 = false → w'.heap[Xf]? = some (.cells #[.int .i64 0, .slice none 0 0, .slice none 0 0] 31 (0, 0))) ∧ (Below w.heap.size w w') ∧ (b 10 = true → Kd.R (Kd.int .i64) 3 w' w.heap.size (fun _ => True) v461 y460) ∧ (b 19 = true → Kd.R (Kd.int .i64) 3 w' w.heap.size (fun _ => True) v466 y465) ∧ (b 21 = true → w'.heap[Xf]? = some (.cells #[.int .i64 a0_0, v461, v466] 31 (0, 0))) ∧ (b 20 = true → (m20_ : Value) = .agg #[.int .i64 a0_0, v461, v466]) ∧ (b 10 = true → b 19 = true → ∀ q_, v461.ownBlock = some q_ → v466.ownBlock = some q_ → False)) HT_.out HW_.out (by kernel_rfl) (by kernel_rfl) ?_ ?_ ?_
  · exact ⟨.bool false, .bool false, .bool false, by simp only [putSel, Bool.false_eq_true, if_false], Xa.out, fun _ => Xc.out, HB.out, fun h_ => absurd h_ (by decide), fun h_ => absurd h_ (by decide), fun h_ => absurd h_ (by decide), fun h_ => absurd h_ (by decide), fun h_ => absurd h_ (by decide)⟩
  · skip
    clear Xa Xc HB
    refine steps_cons ?_ ?_
    · rintro b a w' ⟨v461, v466, m20_, ha, Q_BK455, Q_BK456, Q_HB, Q_HO462, Q_HO467, Q_BK456_e21, Q_X20_, Q_AP⟩ hb_ hon hoff
      refine ⟨_, rfl, fun K hK => ?_⟩
      have e15 : a.tmps[15]? = some (.pointer (some ⟨Xe, 0, none⟩)) := by rw [ha]; exact (putSel_off rfl).trans rfl
      replace ha := Aside0.mk ha
      have Xa := Aside0.mk Q_BK455
      have Xc := Aside0.mk (Q_BK456 (hoff 21 (by kernel_rfl)))
      have HB := Aside0.mk Q_HB
      have hc0_ : w'.cell? ⟨Xe, 0, none⟩ = some (.int .i64 a0_0) := (blk_cell Xa.out 0).trans rfl
      have hc1_ : w'.cell? ⟨Xe, 1, none⟩ = some (.slice (some ad458) Xb.length Xg) := (blk_cell Xa.out 1).trans rfl
      have hc2_ : w'.cell? ⟨Xe, 2, none⟩ = some (.slice (some ad463) Xd.length Xh) := (blk_cell Xa.out 2).trans rfl
      refine value_ (w1 := w') (v := .int .i64 a0_0) (by rfl) rfl ?_ ?_
      · go_simp
        (try simp only [i64_w])
        try rfl
      refine hK.out _ _ ⟨v461, v466, m20_, (by rw [ha.out]; exact putSel_upk 0 hb_ rfl rfl rfl), Q_BK455, Q_BK456, Q_HB, Q_HO462, Q_HO467, fun h0_ => absurd ((hoff 21 (by kernel_rfl)).symm.trans h0_) (by decide), fun h0_ => absurd ((hoff 20 (by kernel_rfl)).symm.trans h0_) (by decide), (fun h1_ h2_ => Q_AP h1_ h2_)⟩
    refine steps_cons ?_ ?_
    · rintro b a w' ⟨v461, v466, m20_, ha, Q_BK455, Q_BK456, Q_HB, Q_HO462, Q_HO467, Q_BK456_e21, Q_X20_, Q_AP⟩ hb_ hon hoff
      refine ⟨_, rfl, fun K hK => ?_⟩
      have e17 : a.tmps[17]? = some (.pointer (some ⟨Xe, 1, none⟩)) := by rw [ha]; exact (putSel_off rfl).trans rfl
      replace ha := Aside0.mk ha
      have Xa := Aside0.mk Q_BK455
      have Xc := Aside0.mk (Q_BK456 (hoff 21 (by kernel_rfl)))
      have HB := Aside0.mk Q_HB
      have hc0_ : w'.cell? ⟨Xe, 0, none⟩ = some (.int .i64 a0_0) := (blk_cell Xa.out 0).trans rfl
      have hc1_ : w'.cell? ⟨Xe, 1, none⟩ = some (.slice (some ad458) Xb.length Xg) := (blk_cell Xa.out 1).trans rfl
      have hc2_ : w'.cell? ⟨Xe, 2, none⟩ = some (.slice (some ad463) Xd.length Xh) := (blk_cell Xa.out 2).trans rfl
      refine value_ (w1 := w') (v := .slice (some ad458) Xb.length Xg) (by rfl) rfl ?_ ?_
      · go_simp
        (try simp only [i64_w])
        try rfl
      refine hK.out _ _ ⟨v461, v466, m20_, (by rw [ha.out]; exact putSel_upk 1 hb_ rfl rfl rfl), Q_BK455, Q_BK456, Q_HB, fun h0_ => absurd ((hoff 10 (by kernel_rfl)).symm.trans h0_) (by decide), Q_HO467, fun h0_ => absurd ((hoff 21 (by kernel_rfl)).symm.trans h0_) (by decide), fun h0_ => absurd ((hoff 20 (by kernel_rfl)).symm.trans h0_) (by decide), (fun h1_ h2_ => Q_AP h1_ h2_)⟩
    refine steps_cons ?_ ?_
    · rintro b a w' ⟨v461, v466, m20_, ha, Q_BK455, Q_BK456, Q_HB, Q_HO462, Q_HO467, Q_BK456_e21, Q_X20_, Q_AP⟩ hb_ hon hoff
      refine ⟨_, rfl, fun K hK => ?_⟩
      have e18 : a.tmps[18]? = some (.slice (some ad458) Xb.length Xg) := by rw [ha]; exact putSel_on (e := (3, 18, .slice (some ad458) Xb.length Xg)) 1 rfl rfl (hon 3 (by kernel_rfl)) rfl
      replace ha := Aside0.mk ha
      have Xa := Aside0.mk Q_BK455
      have Xc := Aside0.mk (Q_BK456 (hoff 21 (by kernel_rfl)))
      have HB := Aside0.mk Q_HB
      have hs0_ : w'.cell? ⟨ad458.block, ad458.off + 1, none⟩ = some (.int .i64 (rd Xb 1)) := ((HB.out.cell (World.block_lt_of_cell? w _ Xp)).trans Xp)
      refine value_ (w1 := w') (v := .pointer (some (ad458.add 1))) (by rfl) rfl ?_ ?_
      · go_simp
        (try simp only [i64_w])
        try rfl
      refine hK.out _ _ ⟨v461, v466, m20_, (by rw [ha.out]; exact putSel_upk 2 hb_ rfl rfl rfl), Q_BK455, Q_BK456, Q_HB, fun h0_ => absurd ((hoff 10 (by kernel_rfl)).symm.trans h0_) (by decide), Q_HO467, fun h0_ => absurd ((hoff 21 (by kernel_rfl)).symm.trans h0_) (by decide), fun h0_ => absurd ((hoff 20 (by kernel_rfl)).symm.trans h0_) (by decide), (fun h1_ h2_ => Q_AP h1_ h2_)⟩
    refine steps_cons ?_ ?_
    · rintro b a w' ⟨v461, v466, m20_, ha, Q_BK455, Q_BK456, Q_HB, Q_HO462, Q_HO467, Q_BK456_e21, Q_X20_, Q_AP⟩ hb_ hon hoff
      refine ⟨_, rfl, fun K hK => ?_⟩
      have e19 : a.tmps[19]? = some (.pointer (some (ad458.add 1))) := by rw [ha]; exact putSel_on (e := (4, 19, .pointer (some (ad458.add 1)))) 2 rfl rfl (hon 4 (by kernel_rfl)) rfl
      replace ha := Aside0.mk ha
      have Xa := Aside0.mk Q_BK455
      have Xc := Aside0.mk (Q_BK456 (hoff 21 (by kernel_rfl)))
      have HB := Aside0.mk Q_HB
      have hs0_ : w'.cell? ⟨ad458.block, ad458.off + 1, none⟩ = some (.int .i64 (rd Xb 1)) := ((HB.out.cell (World.block_lt_of_cell? w _ Xp)).trans Xp)
      refine value_ (w1 := w') (v := .int .i64 (rd Xb 1)) (by rfl) rfl ?_ ?_
      · go_simp
        (try simp only [i64_w])
        try rfl
      refine hK.out _ _ ⟨v461, v466, m20_, (by rw [ha.out]; exact putSel_upk 3 hb_ rfl rfl rfl), Q_BK455, Q_BK456, Q_HB, fun h0_ => absurd ((hoff 10 (by kernel_rfl)).symm.trans h0_) (by decide), Q_HO467, fun h0_ => absurd ((hoff 21 (by kernel_rfl)).symm.trans h0_) (by decide), fun h0_ => absurd ((hoff 20 (by kernel_rfl)).symm.trans h0_) (by decide), (fun h1_ h2_ => Q_AP h1_ h2_)⟩
    refine steps_cons ?_ ?_
    · rintro b a w' ⟨v461, v466, m20_, ha, Q_BK455, Q_BK456, Q_HB, Q_HO462, Q_HO467, Q_BK456_e21, Q_X20_, Q_AP⟩ hb_ hon hoff
      refine ⟨_, rfl, fun K hK => ?_⟩
      have e21 : a.tmps[21]? = some (.pointer (some ⟨Xe, 1, none⟩)) := by rw [ha]; exact (putSel_off rfl).trans rfl
      replace ha := Aside0.mk ha
      have Xa := Aside0.mk Q_BK455
      have Xc := Aside0.mk (Q_BK456 (hoff 21 (by kernel_rfl)))
      have HB := Aside0.mk Q_HB
      have hc0_ : w'.cell? ⟨Xe, 0, none⟩ = some (.int .i64 a0_0) := (blk_cell Xa.out 0).trans rfl
      have hc1_ : w'.cell? ⟨Xe, 1, none⟩ = some (.slice (some ad458) Xb.length Xg) := (blk_cell Xa.out 1).trans rfl
      have hc2_ : w'.cell? ⟨Xe, 2, none⟩ = some (.slice (some ad463) Xd.length Xh) := (blk_cell Xa.out 2).trans rfl
      refine value_ (w1 := w') (v := .slice (some ad458) Xb.length Xg) (by rfl) rfl ?_ ?_
      · go_simp
        (try simp only [i64_w])
        try rfl
      refine hK.out _ _ ⟨v461, v466, m20_, (by rw [ha.out]; exact putSel_upk 4 hb_ rfl rfl rfl), Q_BK455, Q_BK456, Q_HB, fun h0_ => absurd ((hoff 10 (by kernel_rfl)).symm.trans h0_) (by decide), Q_HO467, fun h0_ => absurd ((hoff 21 (by kernel_rfl)).symm.trans h0_) (by decide), fun h0_ => absurd ((hoff 20 (by kernel_rfl)).symm.trans h0_) (by decide), (fun h1_ h2_ => Q_AP h1_ h2_)⟩
    refine steps_cons ?_ ?_
    · rintro b a w' ⟨v461, v466, m20_, ha, Q_BK455, Q_BK456, Q_HB, Q_HO462, Q_HO467, Q_BK456_e21, Q_X20_, Q_AP⟩ hb_ hon hoff
      refine ⟨_, rfl, fun K hK => ?_⟩
      have e22 : a.tmps[22]? = some (.slice (some ad458) Xb.length Xg) := by rw [ha]; exact putSel_on (e := (7, 22, .slice (some ad458) Xb.length Xg)) 4 rfl rfl (hon 7 (by kernel_rfl)) rfl
      replace ha := Aside0.mk ha
      have Xa := Aside0.mk Q_BK455
      have Xc := Aside0.mk (Q_BK456 (hoff 21 (by kernel_rfl)))
      have HB := Aside0.mk Q_HB
      have hs1_ : w'.cell? ad458 = some (.int .i64 (rd Xb 0)) := ((HB.out.cell (World.block_lt_of_cell? w _ Xr)).trans Xr)
      refine value_ (w1 := w') (v := .pointer (some ad458)) (by rfl) rfl ?_ ?_
      · go_simp
        (try simp only [i64_w])
        try rfl
      refine hK.out _ _ ⟨v461, v466, m20_, (by rw [ha.out]; exact putSel_upk 5 hb_ rfl rfl rfl), Q_BK455, Q_BK456, Q_HB, fun h0_ => absurd ((hoff 10 (by kernel_rfl)).symm.trans h0_) (by decide), Q_HO467, fun h0_ => absurd ((hoff 21 (by kernel_rfl)).symm.trans h0_) (by decide), fun h0_ => absurd ((hoff 20 (by kernel_rfl)).symm.trans h0_) (by decide), (fun h1_ h2_ => Q_AP h1_ h2_)⟩
    refine steps_cons ?_ ?_
    · rintro b a w' ⟨v461, v466, m20_, ha, Q_BK455, Q_BK456, Q_HB, Q_HO462, Q_HO467, Q_BK456_e21, Q_X20_, Q_AP⟩ hb_ hon hoff
      refine ⟨_, rfl, fun K hK => ?_⟩
      have e23 : a.tmps[23]? = some (.pointer (some ad458)) := by rw [ha]; exact putSel_on (e := (8, 23, .pointer (some ad458))) 5 rfl rfl (hon 8 (by kernel_rfl)) rfl
      replace ha := Aside0.mk ha
      have Xa := Aside0.mk Q_BK455
      have Xc := Aside0.mk (Q_BK456 (hoff 21 (by kernel_rfl)))
      have HB := Aside0.mk Q_HB
      have hs1_ : w'.cell? ad458 = some (.int .i64 (rd Xb 0)) := ((HB.out.cell (World.block_lt_of_cell? w _ Xr)).trans Xr)
      refine value_ (w1 := w') (v := .int .i64 (rd Xb 0)) (by rfl) rfl ?_ ?_
      · go_simp
        (try simp only [i64_w])
        try rfl
      refine hK.out _ _ ⟨v461, v466, m20_, (by rw [ha.out]; exact putSel_upk 6 hb_ rfl rfl rfl), Q_BK455, Q_BK456, Q_HB, fun h0_ => absurd ((hoff 10 (by kernel_rfl)).symm.trans h0_) (by decide), Q_HO467, fun h0_ => absurd ((hoff 21 (by kernel_rfl)).symm.trans h0_) (by decide), fun h0_ => absurd ((hoff 20 (by kernel_rfl)).symm.trans h0_) (by decide), (fun h1_ h2_ => Q_AP h1_ h2_)⟩
    refine steps_cons ?_ ?_
    · rintro b a w' ⟨v461, v466, m20_, ha, Q_BK455, Q_BK456, Q_HB, Q_HO462, Q_HO467, Q_BK456_e21, Q_X20_, Q_AP⟩ hb_ hon hoff
      refine ⟨_, rfl, fun K hK => ?_⟩
      have e20 : a.tmps[20]? = some (.int .i64 (rd Xb 1)) := by rw [ha]; exact putSel_on (e := (5, 20, .int .i64 (rd Xb 1))) 3 rfl rfl (hon 5 (by kernel_rfl)) rfl
      have e24 : a.tmps[24]? = some (.int .i64 (rd Xb 0)) := by rw [ha]; exact putSel_on (e := (9, 24, .int .i64 (rd Xb 0))) 6 rfl rfl (hon 9 (by kernel_rfl)) rfl
      replace ha := Aside0.mk ha
      have Xa := Aside0.mk Q_BK455
      have Xc := Aside0.mk (Q_BK456 (hoff 21 (by kernel_rfl)))
      have HB := Aside0.mk Q_HB
      refine Kd.R_lit_step (Kd.int .i64) _ 3 ?hg (N := 25) ?hd (xs := ([rd Xb 1, rd Xb 0] : List Int)) (inner := [.int .i64 (rd Xb 1), .int .i64 (rd Xb 0)]) (ok := fun _ => True) (okp := fun _ => True) ?hr ?hp (fun _ hk => hk) trivial (Below.refl _ _) (Nat.le_refl _) (by simp) ?_; (case hd => rfl); (case hg => rfl); (case hr => first | (go_simp; done) | (go_simp; rfl)); (case hp => exact (Reps.one (show Kd.M (Kd.int .i64) _ _ _ (rd Xb 1) [.int .i64 (rd Xb 1)] from rfl) (Reps.one (show Kd.M (Kd.int .i64) _ _ _ (rd Xb 0) [.int .i64 (rd Xb 0)] from rfl) (Reps.none _ _))))
      intro v461 w16 ho17 hb hg_ hnew_
      clear hg_ hnew_
      (first | rw [← Ny460.out] at ho17 | (simp only [Int.reduceToNat] at ho17; rw [← Ny460.out] at ho17))
      have Xw := Aside0.mk (Kd.R_lower ho17 (below_size (by repeat (first | (with_reducible first | exact HB.out | apply upS | refine below_set ?_ Xj.out | refine below_set ?_ Xn.out) | exact HB.out))))
      have Xx := Aside0.mk (blk_below (g := Xe) (o := .cells #[.int .i64 a0_0, .slice (some ad458) Xb.length Xg, .slice (some ad463) Xd.length Xh] 31 (0, 0)) (by exact upB Xa.out) hb)
      have Xy := Aside0.mk (blk_below (g := Xf) (o := .cells #[.int .i64 0, .slice none 0 0, .slice none 0 0] 31 (0, 0)) (by exact upB Xc.out) hb)
      have XB := Aside0.mk (below_step (by repeat (first | (with_reducible first | exact HB.out | apply upS | refine below_set ?_ Xj.out | refine below_set ?_ Xn.out) | exact HB.out)) hb)
      have z_HO467 := fun (h0_ : b 19 = true) => (show Kd.R (Kd.int .i64) 3 w16 w.heap.size (fun _ => True) v466 y465 from by first | exact (Kd.R_elder' (by (with_reducible repeat apply upG); exact (Q_HO467 h0_)) (Kd.R_base ho17) hb) | exact Kd.R_mono (Kd.R_elder' (by (with_reducible repeat apply upG); exact (Q_HO467 h0_)) (Kd.R_base ho17) hb) (fun _ h_ => by first | trivial | exact h_ | exact h_.1))
      have z_AP := fun (_ : true = true) (h0_ : b 19 = true) (q_ : Nat) (e1_ : v461.ownBlock = some q_) (e2_ : v466.ownBlock = some q_) => ((show Kd.R (Kd.int .i64) 3 w16 w.heap.size (fun k_ => True ∧ some k_ ≠ v461.ownBlock) v466 y465 from (Kd.R_elder' (by (with_reducible repeat apply upG); exact (Q_HO467 h0_)) (Kd.R_base ho17) hb)).1 q_ e2_).2 e1_.symm
      clear Xa
      clear Xc
      clear HB
      have Xz := Xw
      have Xa := Xx
      have Xc := Xy
      have HB := XB
      clear Xw Xx Xy XB
      clear hb ho17
      refine hK.out _ _ ⟨v461, v466, m20_, (by rw [ha.out]; exact putSel_upk 7 hb_ rfl rfl rfl), (by exact upB Xa.out), fun _ => (by exact upB Xc.out), (by repeat (first | (with_reducible first | exact HB.out | apply upS | refine below_set ?_ Xj.out | refine below_set ?_ Xn.out) | exact HB.out)), fun _ => (by (with_reducible repeat apply upG); exact Xz.out), z_HO467, fun h0_ => absurd ((hoff 21 (by kernel_rfl)).symm.trans h0_) (by decide), fun h0_ => absurd ((hoff 20 (by kernel_rfl)).symm.trans h0_) (by decide), z_AP⟩
    refine steps_cons ?_ ?_
    · rintro b a w' ⟨v461, v466, m20_, ha, Q_BK455, Q_BK456, Q_HB, Q_HO462, Q_HO467, Q_BK456_e21, Q_X20_, Q_AP⟩ hb_ hon hoff
      refine ⟨_, rfl, fun K hK => ?_⟩
      have e26 : a.tmps[26]? = some (.pointer (some ⟨Xe, 2, none⟩)) := by rw [ha]; exact (putSel_off rfl).trans rfl
      replace ha := Aside0.mk ha
      have Xa := Aside0.mk Q_BK455
      have Xc := Aside0.mk (Q_BK456 (hoff 21 (by kernel_rfl)))
      have HB := Aside0.mk Q_HB
      have hc0_ : w'.cell? ⟨Xe, 0, none⟩ = some (.int .i64 a0_0) := (blk_cell Xa.out 0).trans rfl
      have hc1_ : w'.cell? ⟨Xe, 1, none⟩ = some (.slice (some ad458) Xb.length Xg) := (blk_cell Xa.out 1).trans rfl
      have hc2_ : w'.cell? ⟨Xe, 2, none⟩ = some (.slice (some ad463) Xd.length Xh) := (blk_cell Xa.out 2).trans rfl
      refine value_ (w1 := w') (v := .slice (some ad463) Xd.length Xh) (by rfl) rfl ?_ ?_
      · go_simp
        (try simp only [i64_w])
        try rfl
      refine hK.out _ _ ⟨v461, v466, m20_, (by rw [ha.out]; exact putSel_upk 8 hb_ rfl rfl rfl), Q_BK455, Q_BK456, Q_HB, Q_HO462, fun h0_ => absurd ((hoff 19 (by kernel_rfl)).symm.trans h0_) (by decide), fun h0_ => absurd ((hoff 21 (by kernel_rfl)).symm.trans h0_) (by decide), fun h0_ => absurd ((hoff 20 (by kernel_rfl)).symm.trans h0_) (by decide), (fun h1_ h2_ => Q_AP h1_ h2_)⟩
    refine steps_cons ?_ ?_
    · rintro b a w' ⟨v461, v466, m20_, ha, Q_BK455, Q_BK456, Q_HB, Q_HO462, Q_HO467, Q_BK456_e21, Q_X20_, Q_AP⟩ hb_ hon hoff
      refine ⟨_, rfl, fun K hK => ?_⟩
      have e27 : a.tmps[27]? = some (.slice (some ad463) Xd.length Xh) := by rw [ha]; exact putSel_on (e := (12, 27, .slice (some ad463) Xd.length Xh)) 8 rfl rfl (hon 12 (by kernel_rfl)) rfl
      replace ha := Aside0.mk ha
      have Xa := Aside0.mk Q_BK455
      have Xc := Aside0.mk (Q_BK456 (hoff 21 (by kernel_rfl)))
      have HB := Aside0.mk Q_HB
      have hs2_ : w'.cell? ⟨ad463.block, ad463.off + 1, none⟩ = some (.int .i64 (rd Xd 1)) := ((HB.out.cell (World.block_lt_of_cell? w _ Xt)).trans Xt)
      refine value_ (w1 := w') (v := .pointer (some (ad463.add 1))) (by rfl) rfl ?_ ?_
      · go_simp
        (try simp only [i64_w])
        try rfl
      refine hK.out _ _ ⟨v461, v466, m20_, (by rw [ha.out]; exact putSel_upk 9 hb_ rfl rfl rfl), Q_BK455, Q_BK456, Q_HB, Q_HO462, fun h0_ => absurd ((hoff 19 (by kernel_rfl)).symm.trans h0_) (by decide), fun h0_ => absurd ((hoff 21 (by kernel_rfl)).symm.trans h0_) (by decide), fun h0_ => absurd ((hoff 20 (by kernel_rfl)).symm.trans h0_) (by decide), (fun h1_ h2_ => Q_AP h1_ h2_)⟩
    refine steps_cons ?_ ?_
    · rintro b a w' ⟨v461, v466, m20_, ha, Q_BK455, Q_BK456, Q_HB, Q_HO462, Q_HO467, Q_BK456_e21, Q_X20_, Q_AP⟩ hb_ hon hoff
      refine ⟨_, rfl, fun K hK => ?_⟩
      have e28 : a.tmps[28]? = some (.pointer (some (ad463.add 1))) := by rw [ha]; exact putSel_on (e := (13, 28, .pointer (some (ad463.add 1)))) 9 rfl rfl (hon 13 (by kernel_rfl)) rfl
      replace ha := Aside0.mk ha
      have Xa := Aside0.mk Q_BK455
      have Xc := Aside0.mk (Q_BK456 (hoff 21 (by kernel_rfl)))
      have HB := Aside0.mk Q_HB
      have hs2_ : w'.cell? ⟨ad463.block, ad463.off + 1, none⟩ = some (.int .i64 (rd Xd 1)) := ((HB.out.cell (World.block_lt_of_cell? w _ Xt)).trans Xt)
      refine value_ (w1 := w') (v := .int .i64 (rd Xd 1)) (by rfl) rfl ?_ ?_
      · go_simp
        (try simp only [i64_w])
        try rfl
      refine hK.out _ _ ⟨v461, v466, m20_, (by rw [ha.out]; exact putSel_upk 10 hb_ rfl rfl rfl), Q_BK455, Q_BK456, Q_HB, Q_HO462, fun h0_ => absurd ((hoff 19 (by kernel_rfl)).symm.trans h0_) (by decide), fun h0_ => absurd ((hoff 21 (by kernel_rfl)).symm.trans h0_) (by decide), fun h0_ => absurd ((hoff 20 (by kernel_rfl)).symm.trans h0_) (by decide), (fun h1_ h2_ => Q_AP h1_ h2_)⟩
    refine steps_cons ?_ ?_
    · rintro b a w' ⟨v461, v466, m20_, ha, Q_BK455, Q_BK456, Q_HB, Q_HO462, Q_HO467, Q_BK456_e21, Q_X20_, Q_AP⟩ hb_ hon hoff
      refine ⟨_, rfl, fun K hK => ?_⟩
      have e30 : a.tmps[30]? = some (.pointer (some ⟨Xe, 2, none⟩)) := by rw [ha]; exact (putSel_off rfl).trans rfl
      replace ha := Aside0.mk ha
      have Xa := Aside0.mk Q_BK455
      have Xc := Aside0.mk (Q_BK456 (hoff 21 (by kernel_rfl)))
      have HB := Aside0.mk Q_HB
      have hc0_ : w'.cell? ⟨Xe, 0, none⟩ = some (.int .i64 a0_0) := (blk_cell Xa.out 0).trans rfl
      have hc1_ : w'.cell? ⟨Xe, 1, none⟩ = some (.slice (some ad458) Xb.length Xg) := (blk_cell Xa.out 1).trans rfl
      have hc2_ : w'.cell? ⟨Xe, 2, none⟩ = some (.slice (some ad463) Xd.length Xh) := (blk_cell Xa.out 2).trans rfl
      refine value_ (w1 := w') (v := .slice (some ad463) Xd.length Xh) (by rfl) rfl ?_ ?_
      · go_simp
        (try simp only [i64_w])
        try rfl
      refine hK.out _ _ ⟨v461, v466, m20_, (by rw [ha.out]; exact putSel_upk 11 hb_ rfl rfl rfl), Q_BK455, Q_BK456, Q_HB, Q_HO462, fun h0_ => absurd ((hoff 19 (by kernel_rfl)).symm.trans h0_) (by decide), fun h0_ => absurd ((hoff 21 (by kernel_rfl)).symm.trans h0_) (by decide), fun h0_ => absurd ((hoff 20 (by kernel_rfl)).symm.trans h0_) (by decide), (fun h1_ h2_ => Q_AP h1_ h2_)⟩
    refine steps_cons ?_ ?_
    · rintro b a w' ⟨v461, v466, m20_, ha, Q_BK455, Q_BK456, Q_HB, Q_HO462, Q_HO467, Q_BK456_e21, Q_X20_, Q_AP⟩ hb_ hon hoff
      refine ⟨_, rfl, fun K hK => ?_⟩
      have e31 : a.tmps[31]? = some (.slice (some ad463) Xd.length Xh) := by rw [ha]; exact putSel_on (e := (16, 31, .slice (some ad463) Xd.length Xh)) 11 rfl rfl (hon 16 (by kernel_rfl)) rfl
      replace ha := Aside0.mk ha
      have Xa := Aside0.mk Q_BK455
      have Xc := Aside0.mk (Q_BK456 (hoff 21 (by kernel_rfl)))
      have HB := Aside0.mk Q_HB
      have hs3_ : w'.cell? ad463 = some (.int .i64 (rd Xd 0)) := ((HB.out.cell (World.block_lt_of_cell? w _ Xv)).trans Xv)
      refine value_ (w1 := w') (v := .pointer (some ad463)) (by rfl) rfl ?_ ?_
      · go_simp
        (try simp only [i64_w])
        try rfl
      refine hK.out _ _ ⟨v461, v466, m20_, (by rw [ha.out]; exact putSel_upk 12 hb_ rfl rfl rfl), Q_BK455, Q_BK456, Q_HB, Q_HO462, fun h0_ => absurd ((hoff 19 (by kernel_rfl)).symm.trans h0_) (by decide), fun h0_ => absurd ((hoff 21 (by kernel_rfl)).symm.trans h0_) (by decide), fun h0_ => absurd ((hoff 20 (by kernel_rfl)).symm.trans h0_) (by decide), (fun h1_ h2_ => Q_AP h1_ h2_)⟩
    refine steps_cons ?_ ?_
    · rintro b a w' ⟨v461, v466, m20_, ha, Q_BK455, Q_BK456, Q_HB, Q_HO462, Q_HO467, Q_BK456_e21, Q_X20_, Q_AP⟩ hb_ hon hoff
      refine ⟨_, rfl, fun K hK => ?_⟩
      have e32 : a.tmps[32]? = some (.pointer (some ad463)) := by rw [ha]; exact putSel_on (e := (17, 32, .pointer (some ad463))) 12 rfl rfl (hon 17 (by kernel_rfl)) rfl
      replace ha := Aside0.mk ha
      have Xa := Aside0.mk Q_BK455
      have Xc := Aside0.mk (Q_BK456 (hoff 21 (by kernel_rfl)))
      have HB := Aside0.mk Q_HB
      have hs3_ : w'.cell? ad463 = some (.int .i64 (rd Xd 0)) := ((HB.out.cell (World.block_lt_of_cell? w _ Xv)).trans Xv)
      refine value_ (w1 := w') (v := .int .i64 (rd Xd 0)) (by rfl) rfl ?_ ?_
      · go_simp
        (try simp only [i64_w])
        try rfl
      refine hK.out _ _ ⟨v461, v466, m20_, (by rw [ha.out]; exact putSel_upk 13 hb_ rfl rfl rfl), Q_BK455, Q_BK456, Q_HB, Q_HO462, fun h0_ => absurd ((hoff 19 (by kernel_rfl)).symm.trans h0_) (by decide), fun h0_ => absurd ((hoff 21 (by kernel_rfl)).symm.trans h0_) (by decide), fun h0_ => absurd ((hoff 20 (by kernel_rfl)).symm.trans h0_) (by decide), (fun h1_ h2_ => Q_AP h1_ h2_)⟩
    refine steps_cons ?_ ?_
    · rintro b a w' ⟨v461, v466, m20_, ha, Q_BK455, Q_BK456, Q_HB, Q_HO462, Q_HO467, Q_BK456_e21, Q_X20_, Q_AP⟩ hb_ hon hoff
      refine ⟨_, rfl, fun K hK => ?_⟩
      have e29 : a.tmps[29]? = some (.int .i64 (rd Xd 1)) := by rw [ha]; exact putSel_on (e := (14, 29, .int .i64 (rd Xd 1))) 10 rfl rfl (hon 14 (by kernel_rfl)) rfl
      have e33 : a.tmps[33]? = some (.int .i64 (rd Xd 0)) := by rw [ha]; exact putSel_on (e := (18, 33, .int .i64 (rd Xd 0))) 13 rfl rfl (hon 18 (by kernel_rfl)) rfl
      replace ha := Aside0.mk ha
      have Xa := Aside0.mk Q_BK455
      have Xc := Aside0.mk (Q_BK456 (hoff 21 (by kernel_rfl)))
      have HB := Aside0.mk Q_HB
      refine Kd.R_lit_step (Kd.int .i64) _ 3 ?hg (N := 34) ?hd (xs := ([rd Xd 1, rd Xd 0] : List Int)) (inner := [.int .i64 (rd Xd 1), .int .i64 (rd Xd 0)]) (ok := fun _ => True) (okp := fun _ => True) ?hr ?hp (fun _ hk => hk) trivial (Below.refl _ _) (Nat.le_refl _) (by simp) ?_; (case hd => rfl); (case hg => rfl); (case hr => first | (go_simp; done) | (go_simp; rfl)); (case hp => exact (Reps.one (show Kd.M (Kd.int .i64) _ _ _ (rd Xd 1) [.int .i64 (rd Xd 1)] from rfl) (Reps.one (show Kd.M (Kd.int .i64) _ _ _ (rd Xd 0) [.int .i64 (rd Xd 0)] from rfl) (Reps.none _ _))))
      intro v466 w16 ho17 hb hg_ hnew_
      clear hg_ hnew_
      (first | rw [← Ny465.out] at ho17 | (simp only [Int.reduceToNat] at ho17; rw [← Ny465.out] at ho17))
      have Xw := Aside0.mk (Kd.R_lower ho17 (below_size (by repeat (first | (with_reducible first | exact HB.out | apply upS | refine below_set ?_ Xj.out | refine below_set ?_ Xn.out) | exact HB.out))))
      have Xx := Aside0.mk (blk_below (g := Xe) (o := .cells #[.int .i64 a0_0, .slice (some ad458) Xb.length Xg, .slice (some ad463) Xd.length Xh] 31 (0, 0)) (by exact upB Xa.out) hb)
      have Xy := Aside0.mk (blk_below (g := Xf) (o := .cells #[.int .i64 0, .slice none 0 0, .slice none 0 0] 31 (0, 0)) (by exact upB Xc.out) hb)
      have XB := Aside0.mk (below_step (by repeat (first | (with_reducible first | exact HB.out | apply upS | refine below_set ?_ Xj.out | refine below_set ?_ Xn.out) | exact HB.out)) hb)
      have z_HO462 := fun (h0_ : b 10 = true) => (show Kd.R (Kd.int .i64) 3 w16 w.heap.size (fun _ => True) v461 y460 from by first | exact (Kd.R_elder' (by (with_reducible repeat apply upG); exact (Q_HO462 h0_)) (Kd.R_base ho17) hb) | exact Kd.R_mono (Kd.R_elder' (by (with_reducible repeat apply upG); exact (Q_HO462 h0_)) (Kd.R_base ho17) hb) (fun _ h_ => by first | trivial | exact h_ | exact h_.1))
      have z_AP := fun (h0_ : b 10 = true) (_ : true = true) (q_ : Nat) (e1_ : v461.ownBlock = some q_) (e2_ : v466.ownBlock = some q_) => ((show Kd.R (Kd.int .i64) 3 w16 w.heap.size (fun k_ => True ∧ some k_ ≠ v466.ownBlock) v461 y460 from (Kd.R_elder' (by (with_reducible repeat apply upG); exact (Q_HO462 h0_)) (Kd.R_base ho17) hb)).1 q_ e1_).2 e2_.symm
      clear Xa
      clear Xc
      clear HB
      have XA := Xw
      have Xa := Xx
      have Xc := Xy
      have HB := XB
      clear Xw Xx Xy XB
      clear hb ho17
      refine hK.out _ _ ⟨v461, v466, m20_, (by rw [ha.out]; exact putSel_upk 14 hb_ rfl rfl rfl), (by exact upB Xa.out), fun _ => (by exact upB Xc.out), (by repeat (first | (with_reducible first | exact HB.out | apply upS | refine below_set ?_ Xj.out | refine below_set ?_ Xn.out) | exact HB.out)), z_HO462, fun _ => (by (with_reducible repeat apply upG); exact XA.out), fun h0_ => absurd ((hoff 21 (by kernel_rfl)).symm.trans h0_) (by decide), fun h0_ => absurd ((hoff 20 (by kernel_rfl)).symm.trans h0_) (by decide), z_AP⟩
    refine steps_cons ?_ ?_
    · rintro b a w' ⟨v461, v466, m20_, ha, Q_BK455, Q_BK456, Q_HB, Q_HO462, Q_HO467, Q_BK456_e21, Q_X20_, Q_AP⟩ hb_ hon hoff
      refine ⟨_, rfl, fun K hK => ?_⟩
      have e16 : a.tmps[16]? = some (.int .i64 a0_0) := by rw [ha]; exact putSel_on (e := (1, 16, .int .i64 a0_0)) 0 rfl rfl (hon 1 (by kernel_rfl)) rfl
      have e25 : a.tmps[25]? = some (v461) := by rw [ha]; exact putSel_on (e := (10, 25, v461)) 7 rfl rfl (hon 10 (by kernel_rfl)) rfl
      have e34 : a.tmps[34]? = some (v466) := by rw [ha]; exact putSel_on (e := (19, 34, v466)) 14 rfl rfl (hon 19 (by kernel_rfl)) rfl
      replace ha := Aside0.mk ha
      have Xa := Aside0.mk Q_BK455
      have Xc := Aside0.mk (Q_BK456 (hoff 21 (by kernel_rfl)))
      have HB := Aside0.mk Q_HB
      have Xz := Aside0.mk (Q_HO462 (hon 10 (by kernel_rfl)))
      have XA := Aside0.mk (Q_HO467 (hon 19 (by kernel_rfl)))
      obtain ⟨XE, XF, eo_⟩ := Kd.R_slice Xz.out
      subst eo_
      obtain ⟨XG, XH, eo_⟩ := Kd.R_slice XA.out
      subst eo_
      refine value_ (w1 := w') (v := .agg #[.int .i64 a0_0, .slice XE y460.length XF, .slice XG y465.length XH]) (by rfl) rfl ?_ ?_
      · go_simp
        (try simp only [i64_w])
        try rfl
      refine hK.out _ _ ⟨.slice XE y460.length XF, .slice XG y465.length XH, (.agg #[.int .i64 a0_0, .slice XE y460.length XF, .slice XG y465.length XH]), (by rw [ha.out]; exact putSel_upk 15 hb_ rfl rfl rfl), Q_BK455, Q_BK456, Q_HB, Q_HO462, Q_HO467, fun h0_ => absurd ((hoff 21 (by kernel_rfl)).symm.trans h0_) (by decide), fun _ => rfl, (fun h1_ h2_ => Q_AP h1_ h2_)⟩
    refine steps_cons ?_ ?_
    · rintro b a w' ⟨v461, v466, m20_, ha, Q_BK455, Q_BK456, Q_HB, Q_HO462, Q_HO467, Q_BK456_e21, Q_X20_, Q_AP⟩ hb_ hon hoff
      refine ⟨_, rfl, fun K hK => ?_⟩
      have e2 : a.tmps[2]? = some (.pointer (some ⟨Xf, 0, none⟩)) := by rw [ha]; exact (putSel_off rfl).trans rfl
      have e35 : a.tmps[35]? = some (m20_) := by rw [ha]; exact putSel_on (e := (20, 35, m20_)) 15 rfl rfl (hon 20 (by kernel_rfl)) rfl
      rw [Q_X20_ (hon 20 (by kernel_rfl))] at e35
      replace ha := Aside0.mk ha
      have Xa := Aside0.mk Q_BK455
      have Xc := Aside0.mk (Q_BK456 hb_)
      have HB := Aside0.mk Q_HB
      have Xz := Aside0.mk (Q_HO462 (hon 10 (by kernel_rfl)))
      have XA := Aside0.mk (Q_HO467 (hon 19 (by kernel_rfl)))
      obtain ⟨X4, X5, eo23⟩ := Kd.R_slice XA.out
      (first | subst eo23 | (injection eo23 with f1_ f2_ f3_; have f4_ := f1_.symm; have f5_ := f3_.symm; clear f1_ f2_ f3_; subst f4_; subst f5_))
      obtain ⟨XP, XQ, eo24⟩ := Kd.R_slice Xz.out
      (first | subst eo24 | (injection eo24 with f1_ f2_ f3_; have f4_ := f1_.symm; have f5_ := f3_.symm; clear f1_ f2_ f3_; subst f4_; subst f5_))
      have hs25 : w'.cell? ⟨Xf, 0, none⟩ = some (.int .i64 0) := (blk_cell Xc.out 0).trans rfl
      have hfs25 := blk_frozen Xc.out 0
      have hns25_0 := Xi.out
      have hms25_0 := Xk.out
      have hs26 : w'.cell? ⟨Xf, 1, none⟩ = some (.slice none 0 0) := (blk_cell Xc.out 1).trans rfl
      have hfs26 := blk_frozen Xc.out 1
      have hns26_0 := Xi.out
      have hms26_0 := Xk.out
      have hs27 : w'.cell? ⟨Xf, 2, none⟩ = some (.slice none 0 0) := (blk_cell Xc.out 2).trans rfl
      have hfs27 := blk_frozen Xc.out 2
      have hns27_0 := Xi.out
      have hms27_0 := Xk.out
      refine skip_ (w1 := ?_) (by rfl) rfl ?_ ?_
      rotate_left
      · go_simp
        rfl
      refine hK.out _ _ ⟨.slice XP y460.length XQ, .slice X4 y465.length X5, m20_, (by rw [ha.out]; exact putSel_none (v := undef) rfl), (by (with_reducible repeat apply upF); refine blk_far ?_ Xi.out _; (with_reducible repeat apply upF); refine blk_far ?_ Xi.out _; (with_reducible repeat apply upF); refine blk_far ?_ Xi.out _; exact upB Xa.out), fun h0_ => absurd ((up_self b 21).symm.trans h0_) (by decide), (by repeat (first | (with_reducible first | exact HB.out | apply upS | refine below_set ?_ Xj.out | refine below_set ?_ Xn.out) | exact HB.out)), fun _ => (by (with_reducible repeat apply upG); exact Kd.R_mono (Kd.R_far (p := ⟨Xf, 2, none⟩) (Kd.R_far (p := ⟨Xf, 1, none⟩) (Kd.R_far (p := ⟨Xf, 0, none⟩) (Kd.R_types Xz.out Xc.out (by decide)) (fun _ hk => hk.2) (.int .i64 a0_0)) (fun _ hk => hk.2) (.slice XP y460.length XQ)) (fun _ hk => hk.2) (.slice X4 y465.length X5)) (fun _ hk => hk.1)), fun _ => (by (with_reducible repeat apply upG); exact Kd.R_mono (Kd.R_far (p := ⟨Xf, 2, none⟩) (Kd.R_far (p := ⟨Xf, 1, none⟩) (Kd.R_far (p := ⟨Xf, 0, none⟩) (Kd.R_types XA.out Xc.out (by decide)) (fun _ hk => hk.2) (.int .i64 a0_0)) (fun _ hk => hk.2) (.slice XP y460.length XQ)) (fun _ hk => hk.2) (.slice X4 y465.length X5)) (fun _ hk => hk.1)), fun _ => (by (with_reducible repeat apply upF); refine blk_put (cs := #[.int .i64 a0_0, .slice XP y460.length XQ, .slice none 0 0]) ?_ 2 _ rfl; (with_reducible repeat apply upF); refine blk_put (cs := #[.int .i64 a0_0, .slice none 0 0, .slice none 0 0]) ?_ 1 _ rfl; (with_reducible repeat apply upF); refine blk_put (cs := #[.int .i64 0, .slice none 0 0, .slice none 0 0]) ?_ 0 _ rfl; exact upB Xc.out), Q_X20_, (fun h1_ h2_ => Q_AP h1_ h2_)⟩
    refine steps_cons ?_ ?_
    · rintro b a w' ⟨v461, v466, m20_, ha, Q_BK455, Q_BK456, Q_HB, Q_HO462, Q_HO467, Q_BK456_e21, Q_X20_, Q_AP⟩ hb_ hon hoff
      refine ⟨_, rfl, fun K hK => ?_⟩
      replace ha := Aside0.mk ha
      have Xa := Aside0.mk Q_BK455
      have HB := Aside0.mk Q_HB
      have Xz := Aside0.mk (Q_HO462 (hon 10 (by kernel_rfl)))
      have XA := Aside0.mk (Q_HO467 (hon 19 (by kernel_rfl)))
      have Xc := Aside0.mk (Q_BK456_e21 (hon 21 (by kernel_rfl)))
      refine value_ (w1 := w') (v := .int .i64 0) (by rfl) rfl ?_ ?_
      · go_simp
        (try simp only [i64_w])
        try rfl
      refine hK.out _ _ ⟨v461, v466, m20_, (by rw [ha.out]; exact putSel_upk 16 hb_ rfl rfl rfl), Q_BK455, fun h0_ => absurd ((hon 21 (by kernel_rfl)).symm.trans h0_) (by decide), Q_HB, Q_HO462, Q_HO467, Q_BK456_e21, Q_X20_, (fun h1_ h2_ => Q_AP h1_ h2_)⟩
    exact steps_nil
  rintro b a w25 hall ⟨v461, v466, m20_, ha, Q_BK455, Q_BK456, Q_HB, Q_HO462, Q_HO467, Q_BK456_e21, Q_X20_, Q_AP⟩
  clear Xa Xc HB
  have X6 := hall 1 (by kernel_rfl)
  have X7 := hall 3 (by kernel_rfl)
  have X8 := hall 4 (by kernel_rfl)
  have X9 := hall 5 (by kernel_rfl)
  have Ya := hall 7 (by kernel_rfl)
  have Yb := hall 8 (by kernel_rfl)
  have Yc := hall 9 (by kernel_rfl)
  have XI := hall 10 (by kernel_rfl)
  have XW := hall 12 (by kernel_rfl)
  have XX := hall 13 (by kernel_rfl)
  have XY := hall 14 (by kernel_rfl)
  have XZ := hall 16 (by kernel_rfl)
  have X0 := hall 17 (by kernel_rfl)
  have X1 := hall 18 (by kernel_rfl)
  have XJ := hall 19 (by kernel_rfl)
  have XN := hall 20 (by kernel_rfl)
  have XO := hall 21 (by kernel_rfl)
  have X2 := hall 22 (by kernel_rfl)
  subst ha
  obtain rfl := Q_X20_ XN
  simp only [putSel, X6, X7, X8, X9, Ya, Yb, Yc, XI, XW, XX, XY, XZ, X0, X1, XJ, XN, XO, X2, if_true, Act.put, List.setIfInBounds_toArray, List.set_cons_zero, List.set_cons_succ]
  have Xa := Aside0.mk Q_BK455
  clear Q_BK455
  clear Q_BK456
  have HB := Aside0.mk Q_HB
  clear Q_HB
  have Q_AP := Q_AP XI XJ
  have Xz := Aside0.mk (Q_HO462 XI)
  clear Q_HO462
  have XA := Aside0.mk (Q_HO467 XJ)
  clear Q_HO467
  have Xc := Aside0.mk (Q_BK456_e21 XO)
  clear Q_BK456_e21
  clear hall X6 X7 X8 X9 Ya Yb Yc XI XW XX XY XZ X0 X1 XJ XN XO X2
  obtain ⟨YV, YW, eo26⟩ := Kd.R_slice XA.out
  (first | subst eo26 | (injection eo26 with f1_ f2_ f3_; have f4_ := f1_.symm; have f5_ := f3_.symm; clear f1_ f2_ f3_; subst f4_; subst f5_))
  obtain ⟨YX, YY, eo27⟩ := Kd.R_slice Xz.out
  (first | subst eo27 | (injection eo27 with f1_ f2_ f3_; have f4_ := f1_.symm; have f5_ := f3_.symm; clear f1_ f2_ f3_; subst f4_; subst f5_))
  try go_wp2
  refine bodyPost_ret (results_ct rfl _ _ Xf 31 #[.int .i64 a0_0, .slice YX y460.length YY, .slice YV y465.length YW] (0, 0) _ rfl (by exact upB Xc.out) Try.underlying31 rfl (by kernel_rfl)) rfl ?_
  exact ⟨_, _, by first | rfl | (simp [errW_none, errW_some] <;> rfl) | (simp [*, errW_none, errW_some] <;> rfl), by (with_reducible repeat apply upG); exact Kd.R_of_own (Kd.own_of_R Xz.out) (fun k_ hk_ he_ => Q_AP k_ hk_ he_.symm), by (with_reducible repeat apply upG); exact Kd.R_of_own (Kd.own_of_R XA.out) (fun k_ hk_ he_ => Q_AP k_ he_.symm hk_), by repeat (first | (with_reducible first | exact HB.out | apply upS | refine below_set ?_ Xj.out | refine below_set ?_ Xn.out) | exact HB.out)⟩

end Go.Proofs.Yticjlkommabcjaa.PS
