-- Printed by wip/qprint.py of this repository, over the kit's print, out of the translation. Not trusted: Lean checks it.
import Derived.Test.YticjlkommabcjaaPSx0
import Derived.Test.YticjlkommabcjaaPSx1
import Derived.Test.YticjlkommabcjaaPSx3
import Derived.Test.YticjlkommabcjaaPSx5
import Derived.Test.YticjlkommabcjaaPSx6
import Derived.Test.YticjlkommabcjaaUp
namespace Go.Proofs.Yticjlkommabcjaa.PS
open Go.RowKit Go.Proofs.YticjlkommabcjaaW.PrintWords Go.Proofs.YticjlkommabcjaaW.PrintLast Go.Proofs.YticjlkommabcjaaW.PrintMore
attribute [local go_sem] max2_int min2_int max_two min_two max_three min_three max_four min_four   -- for this text's walks alone
set_option linter.unusedVariables false
set_option linter.unusedSimpArgs false
set_option maxRecDepth 100000

/-! ### section_Cut: function 15 -/
set_option maxHeartbeats 8000000 in
set_option maxRecDepth 100000 in
theorem section_Cut.calls (k : Nat) (a0_0 : Int) (XJ : Option Addr) (XG : Nat) (Xp : List Int) (XI : Option Addr) (XH : Nat) (Xm : List Int) (A1 : Option Addr) (c1 : Nat) (l1 : List (S58)) (r1 : Int) (r2 : List Int) (r3 : List Int) (r4 : Int) (w : World) (hr0_1 : Kd.C (Kd.int .i64) w XJ Xp.length Xp) (hc0_1 : Xp.length ≤ XG) (hr0_2 : Kd.C (Kd.int .i64) w XI Xm.length Xm) (hc0_2 : Xm.length ≤ XH) (hr1 : Kd.C k58 w A1 l1.length l1) (hc1 : l1.length ≤ c1) (h : section_Cut.f k a0_0 Xp Xm l1 = some (r1, r2, r3, r4)) :
    Calls Try.prog 15 #[.agg #[.int .i64 a0_0, .slice XJ Xp.length XG, .slice XI Xm.length XH], .slice A1 l1.length c1] w fun e w' => ∃ v1_ v2_ : Value, e = .returned (.tuple #[.agg #[.int .i64 r1, v1_, v2_], .int .i64 r4]) ∧ Kd.R (Kd.int .i64) 3 w' w.heap.size (fun k_ => some k_ ≠ (v2_ : Value).ownBlock) v1_ r2 ∧ Kd.R (Kd.int .i64) 3 w' w.heap.size (fun k_ => some k_ ≠ (v1_ : Value).ownBlock) v2_ r3 ∧ Below w.heap.size w w' := by
  have hu31 := Try.underlying31
  have hu58 := Try.underlying58
  have hu23 := Try.underlying23
  have Yx := Aside0.mk hr0_1
  have Zb := Aside0.mk hc0_1
  clear hr0_1 hc0_1
  have YL := Aside0.mk hr0_2
  have TP := Aside0.mk hc0_2
  clear hr0_2 hc0_2
  have T1 := Aside0.mk hr1
  have KN := Aside0.mk hc1
  clear hr1 hc1
  have HB := Aside0.mk (Below.refl w.heap.size w)
  have H : ((section_Valid.f k a0_0 Xp Xm).bind fun UA => (if UA = true then (section_Cut.j0 k l1 ((l1.length : Int) != (Xp.length : Int)) a0_0 Xp Xm) else (section_Cut.j0 k l1 true a0_0 Xp Xm))) = some (r1, r2, r3, r4) := h
  clear h
  have D4 := Aside0.mk H
  clear H
  go_enter Try.func15, Try.ntmps15
  go_upto_region 1 with (first | ((with_reducible refine gate_dst (N := 2) rfl ?_); (try (refine gate_guard (by rfl) ?_; dsimp only)); refine box_event ?hg (N := 2) ?hd (cs := #[.int .i64 a0_0, .slice XJ Xp.length XG, .slice XI Xm.length XH]) (t := 31) ?hr ?_; (case hd => rfl); (case hg => rfl); (case hr => first | (go_simp; done) | (go_simp; rfl)); intro Xk hg w4 hbox hb; have X3 := Aside0.mk (below_step (by exact upL HB.out) hb); have X4 := Aside0.mk (hbox); have X5 := Aside0.mk ((by rw [hg]; exact (below_size (by exact upL HB.out)) : w.heap.size ≤ Xk)); have X6 := Aside0.mk ((by rw [hg]; exact (below_size (by exact upL HB.out)) : w.heap.size ≤ Xk)); clear HB; have HB := X3; have Xb := X4; have Ja := X5; have Xv := X6; clear X3 X4 X5 X6; clear hb hbox hg) | ((with_reducible refine gate_dst (N := 4) rfl ?_); (try (refine gate_guard (by rfl) ?_; dsimp only)); refine box_event ?hg (N := 4) ?hd (cs := #[.int .i64 0, .slice none 0 0, .slice none 0 0]) (t := 31) ?hr ?_; (case hd => rfl); (case hg => rfl); (case hr => first | (go_simp; done) | (go_simp; rfl)); intro Xl hg w5 hbox hb; have X3 := Aside0.mk (blk_below (g := Xk) (o := .cells #[.int .i64 a0_0, .slice XJ Xp.length XG, .slice XI Xm.length XH] 31 (0, 0)) (by exact upB Xb.out) hb); have X4 := Aside0.mk (below_step (by repeat (first | (with_reducible first | exact HB.out | apply upS | refine below_set ?_ Xv.out) | exact HB.out)) hb); have X5 := Aside0.mk (hbox); have X6 := Aside0.mk ((by rw [hg]; exact (below_size (by repeat (first | (with_reducible first | exact HB.out | apply upS | refine below_set ?_ Xv.out) | exact HB.out))) : w.heap.size ≤ Xl)); have Yf := Aside0.mk ((by rw [hg]; exact (below_size (by repeat (first | (with_reducible first | exact HB.out | apply upS | refine below_set ?_ Xv.out) | exact HB.out))) : w.heap.size ≤ Xl)); have Yg := Aside0.mk ((by rw [hg]; exact Nat.ne_of_lt (blk_lt (g := Xk) (o := .cells #[.int .i64 a0_0, .slice XJ Xp.length XG, .slice XI Xm.length XH] 31 (0, 0)) (by exact upB Xb.out)) : Xk ≠ Xl)); have Yi := Aside0.mk ((by rw [hg]; exact Nat.ne_of_gt (blk_lt (g := Xk) (o := .cells #[.int .i64 a0_0, .slice XJ Xp.length XG, .slice XI Xm.length XH] 31 (0, 0)) (by exact upB Xb.out)) : Xl ≠ Xk)); clear Xb; clear HB; have Xb := X3; have HB := X4; have Xe := X5; have Jb := X6; have Xw := Yf; have XK := Yg; have XL := Yi; clear X3 X4 X5 X6 Yf Yg Yi; clear hb hbox hg))
  (try simp only [Act.put, List.setIfInBounds_toArray, List.set_cons_zero, List.set_cons_succ])
  go_cut [29] (fun v29 wc => ∃ (kq : Nat) (Zc : Bool), v29 = .bool Zc ∧ Aside0 (section_Cut.j0 kq l1 Zc a0_0 Xp Xm = some (r1, r2, r3, r4)) ∧ Aside0 (kq ≤ k) ∧ Aside0 (wc.heap[Xk]? = some (.cells #[.int .i64 a0_0, (.slice XJ Xp.length XG), (.slice XI Xm.length XH)] 31 (0, 0))) ∧ Aside0 (wc.heap[Xl]? = some (.cells #[.int .i64 0, (.slice none 0 0), (.slice none 0 0)] 31 (0, 0))) ∧ Aside0 (Below w.heap.size w wc))
  case first =>
   have H := D4.out
   clear D4
   replace H := Option.bind_eq_some_iff.mp H
   obtain ⟨UA, Jc, H⟩ := H
   replace H : (if UA = true then (section_Cut.j0 k l1 ((l1.length : Int) != (Xp.length : Int)) a0_0 Xp Xm) else (section_Cut.j0 k l1 true a0_0 Xp Xm)) = some (r1, r2, r3, r4) := H
   have A6 := Aside0.mk Jc
   clear Jc
   by_cases c7 : UA = true
   case neg =>
    replace c7 := Bool.eq_false_iff.mpr c7
    subst c7
    have H1 : (section_Cut.j0 k l1 true a0_0 Xp Xm) = some (r1, r2, r3, r4) := by rw [if_neg (show ¬ (false = true) by decide)] at H; exact H
    clear H
    have H := H1
    clear H1
    have H' := Aside0.mk H
    clear H
    have Jd := XK.out
    have Je := XL.out
    have Yz : w5.cell? ⟨Xk, 0, none⟩ = some (.int .i64 a0_0) := (blk_cell Xb.out 0).trans rfl
    have YA : w5.cell? ⟨Xk, 1, none⟩ = some (.slice XJ Xp.length XG) := (blk_cell Xb.out 1).trans rfl
    have YB : w5.cell? ⟨Xk, 2, none⟩ = some (.slice XI Xm.length XH) := (blk_cell Xb.out 2).trans rfl
    have YC := blk_frozen Xb.out 0
    have YD := blk_frozen Xb.out 1
    have YE := blk_frozen Xb.out 2
    go_wp2_with (first | ((with_reducible refine gate_callee (f := 23) rfl ?_); refine goesL_ (some 20) rfl rfl Try.func23 (by kernel_rfl) rfl #[.agg #[.int .i64 a0_0, .slice XJ Xp.length XG, .slice XI Xm.length XH]] rfl (by (try simp only [List.map_toArray, List.map_cons, List.map_nil]); first | done | rfl | (simp only [List.length_drop, List.length_take]; rfl)) ?_; (with_reducible refine (section_Valid.calls k a0_0 _ _ Xp _ _ Xm false _ ?side1 ?side2 ?side3 ?side4 A6.out).mono ?_); (case side1 => repeat (first | exact (Kd.C_below Yx.out HB.out) | (with_reducible refine Kd.C_alloc ?_ _) | (with_reducible refine Kd.C_drewN ?_ _) | (with_reducible refine Kd.C_drew ?_))); (case side2 => exact Zb.out); (case side3 => repeat (first | exact (Kd.C_below YL.out HB.out) | (with_reducible refine Kd.C_alloc ?_ _) | (with_reducible refine Kd.C_drewN ?_ _) | (with_reducible refine Kd.C_drew ?_))); (case side4 => exact TP.out); rintro e w14 ⟨rfl, hb⟩; refine ⟨_, rfl, ?_⟩; have X3 := Aside0.mk (blk_below (g := Xk) (o := .cells #[.int .i64 a0_0, .slice XJ Xp.length XG, .slice XI Xm.length XH] 31 (0, 0)) (by exact upB Xb.out) hb); have X4 := Aside0.mk (blk_below (g := Xl) (o := .cells #[.int .i64 0, .slice none 0 0, .slice none 0 0] 31 (0, 0)) (by exact upB Xe.out) hb); have X5 := Aside0.mk (below_step (by repeat (first | (with_reducible first | exact HB.out | apply upS | refine below_set ?_ Xv.out | refine below_set ?_ Xw.out) | exact HB.out)) hb); clear Xb; clear Xe; clear HB; have Xb := X3; have Xe := X4; have HB := X5; clear X3 X4 X5; (try clear hb); (try clear Qk); (try clear hk); (try clear hi)))
    go_meet
    case rel => exact ⟨_, (true), (by first | rfl | (simp; done) | (simp [*]; done)), H', ⟨by first | omega | exact Nat.le_refl _⟩, ⟨by exact upB Xb.out⟩, ⟨by exact upB Xe.out⟩, ⟨by repeat (first | (with_reducible first | exact HB.out | apply upS | refine below_set ?_ Xv.out | refine below_set ?_ Xw.out) | exact HB.out)⟩⟩
   subst c7
   have H1 : (section_Cut.j0 k l1 ((l1.length : Int) != (Xp.length : Int)) a0_0 Xp Xm) = some (r1, r2, r3, r4) := by rw [if_pos rfl] at H; exact H
   clear H
   have H := H1
   clear H1
   have H' := Aside0.mk H
   clear H
   have Kl := XK.out
   have Km := XL.out
   have YU : w5.cell? ⟨Xk, 0, none⟩ = some (.int .i64 a0_0) := (blk_cell Xb.out 0).trans rfl
   have YV : w5.cell? ⟨Xk, 1, none⟩ = some (.slice XJ Xp.length XG) := (blk_cell Xb.out 1).trans rfl
   have YW : w5.cell? ⟨Xk, 2, none⟩ = some (.slice XI Xm.length XH) := (blk_cell Xb.out 2).trans rfl
   have YX := blk_frozen Xb.out 0
   have YY := blk_frozen Xb.out 1
   have YZ := blk_frozen Xb.out 2
   go_wp2_with (first | ((with_reducible refine gate_callee (f := 23) rfl ?_); refine goesL_ (some 20) rfl rfl Try.func23 (by kernel_rfl) rfl #[.agg #[.int .i64 a0_0, .slice XJ Xp.length XG, .slice XI Xm.length XH]] rfl (by (try simp only [List.map_toArray, List.map_cons, List.map_nil]); first | done | rfl | (simp only [List.length_drop, List.length_take]; rfl)) ?_; (with_reducible refine (section_Valid.calls k a0_0 _ _ Xp _ _ Xm true _ ?side1 ?side2 ?side3 ?side4 A6.out).mono ?_); (case side1 => repeat (first | exact (Kd.C_below Yx.out HB.out) | (with_reducible refine Kd.C_alloc ?_ _) | (with_reducible refine Kd.C_drewN ?_ _) | (with_reducible refine Kd.C_drew ?_))); (case side2 => exact Zb.out); (case side3 => repeat (first | exact (Kd.C_below YL.out HB.out) | (with_reducible refine Kd.C_alloc ?_ _) | (with_reducible refine Kd.C_drewN ?_ _) | (with_reducible refine Kd.C_drew ?_))); (case side4 => exact TP.out); rintro e w10 ⟨rfl, hb⟩; refine ⟨_, rfl, ?_⟩; have X3 := Aside0.mk (blk_below (g := Xk) (o := .cells #[.int .i64 a0_0, .slice XJ Xp.length XG, .slice XI Xm.length XH] 31 (0, 0)) (by exact upB Xb.out) hb); have X4 := Aside0.mk (blk_below (g := Xl) (o := .cells #[.int .i64 0, .slice none 0 0, .slice none 0 0] 31 (0, 0)) (by exact upB Xe.out) hb); have X5 := Aside0.mk (below_step (by repeat (first | (with_reducible first | exact HB.out | apply upS | refine below_set ?_ Xv.out | refine below_set ?_ Xw.out) | exact HB.out)) hb); clear Xb; clear Xe; clear HB; have Xb := X3; have Xe := X4; have HB := X5; clear X3 X4 X5; (try clear hb); (try clear Qk); (try clear hk); (try clear hi); have YF : w10.cell? ⟨Xk, 0, none⟩ = some (.int .i64 a0_0) := (blk_cell Xb.out 0).trans rfl; have YG : w10.cell? ⟨Xk, 1, none⟩ = some (.slice XJ Xp.length XG) := (blk_cell Xb.out 1).trans rfl; have YH : w10.cell? ⟨Xk, 2, none⟩ = some (.slice XI Xm.length XH) := (blk_cell Xb.out 2).trans rfl; have YI := blk_frozen Xb.out 0; have YJ := blk_frozen Xb.out 1; have YK := blk_frozen Xb.out 2))
   go_meet
   case rel => exact ⟨_, (((l1.length : Int) != (Xp.length : Int))), (by first | rfl | (simp; done) | (simp [*]; done)), H', ⟨by first | omega | exact Nat.le_refl _⟩, ⟨by exact upB Xb.out⟩, ⟨by exact upB Xe.out⟩, ⟨by repeat (first | (with_reducible first | exact HB.out | apply upS | refine below_set ?_ Xv.out | refine below_set ?_ Xw.out) | exact HB.out)⟩⟩
  clear D4
  try clear c1
  try clear c2
  try clear p2
  try clear c7
  try clear c8
  try clear D5
  try clear YF
  try clear YG
  try clear YH
  try clear Yz
  try clear YA
  try clear YB
  try clear YU
  try clear YV
  try clear YW
  try clear YI
  try clear YJ
  try clear YK
  try clear YC
  try clear YD
  try clear YE
  try clear YX
  try clear YY
  try clear YZ
  obtain ⟨kq, Zc, rfl, HA, HJ2, Xb, Xe, HB⟩ := hcut
  cases kq with
  | zero => exact absurd HA.out (by simp [section_Cut.j0])
  | succ kj2 =>
   have H := HA.out
   clear HA
   simp only [section_Cut.j0] at H
   by_cases T2 : Zc = true
   case pos =>
    subst T2
    have H1 : (some (0, ([] : List Int), ([] : List Int), 2)) = some (r1, r2, r3, r4) := by rw [if_pos rfl] at H; exact H
    clear H
    have H := H1
    clear H1
    simp only [Option.some.injEq, Prod.mk.injEq] at H
    obtain ⟨rfl, rfl, rfl, rfl⟩ := H
    have Jf := XL.out
    have Jg := XK.out
    have Y0 : wc.cell? ⟨Xl, 0, none⟩ = some (.int .i64 0) := (blk_cell Xe.out 0).trans rfl
    have Y1 : wc.cell? ⟨Xl, 1, none⟩ = some (.slice none 0 0) := (blk_cell Xe.out 1).trans rfl
    have Y2 : wc.cell? ⟨Xl, 2, none⟩ = some (.slice none 0 0) := (blk_cell Xe.out 2).trans rfl
    have Y3 := blk_frozen Xe.out 0
    have Y4 := blk_frozen Xe.out 1
    have Y5 := blk_frozen Xe.out 2
    go_wp2
    refine bodyPost_ret (results_ct rfl _ _ Xl 31 #[.int .i64 0, .slice none 0 0, .slice none 0 0] (0, 0) _ rfl (by (with_reducible repeat apply upF); refine blk_put (cs := #[.int .i64 0, .slice none 0 0, .slice none 0 0]) ?_ 2 _ rfl; (with_reducible repeat apply upF); refine blk_put (cs := #[.int .i64 0, .slice none 0 0, .slice none 0 0]) ?_ 1 _ rfl; (with_reducible repeat apply upF); refine blk_put (cs := #[.int .i64 0, .slice none 0 0, .slice none 0 0]) ?_ 0 _ rfl; exact upB Xe.out) Try.underlying31 rfl (by kernel_rfl)) rfl ?_
    exact ⟨_, _, by first | (simp only [Array.getD_eq_getD_getElem?, List.getElem?_toArray, List.getElem?_cons_succ, List.getElem?_cons_zero, Option.getD_some] <;> rfl) | rfl | (simp [errW_none, errW_some] <;> rfl) | (simp [*, errW_none, errW_some] <;> rfl), by first | exact Kd.R_nil _ _ _ _ _ | exact Kd.N_nil _ _ _ _ _ | exact Kd.V_nil _ _ _ _ _ | exact Kd.Q_nil _ _ _ _ _ | exact Kd.S_nil _ _ _ _ _, by first | exact Kd.R_nil _ _ _ _ _ | exact Kd.N_nil _ _ _ _ _ | exact Kd.V_nil _ _ _ _ _ | exact Kd.Q_nil _ _ _ _ _ | exact Kd.S_nil _ _ _ _ _, by repeat (first | (with_reducible first | exact HB.out | apply upS | refine below_set ?_ Xv.out | refine below_set ?_ Xw.out) | exact HB.out)⟩
   replace T2 := Bool.eq_false_iff.mpr T2
   subst T2
   have H1 : (section_Cut.l0 kj2 l1 l1 (l1.length : Int) 0 a0_0 Xp Xm) = some (r1, r2, r3, r4) := by rw [if_neg (show ¬ (false = true) by decide)] at H; exact H
   clear H
   have H := H1
   clear H1
   have H' := Aside0.mk H
   clear H
   go_wp2
   go_loopg [33] kj2 (fun kq v33 w' => ∃ (Xo : Int) (XA : Int), v33 = .int .i64 Xo ∧ Aside0 (section_Cut.l0 kq l1 l1 (l1.length : Int) Xo a0_0 Xp Xm = some (r1, r2, r3, r4)) ∧ Aside0 (kq ≤ kj2) ∧ Aside0 (w'.heap[Xk]? = some (.cells #[.int .i64 a0_0, (.slice XJ Xp.length XG), (.slice XI Xm.length XH)] 31 (0, 0))) ∧ Aside0 (w'.heap[Xl]? = some (.cells #[.int .i64 XA, (.slice none 0 0), (.slice none 0 0)] 31 (0, 0))) ∧ Aside0 (Below w.heap.size w w'))
   case atStart => exact ⟨(0), (0), (by first | rfl | (simp; done) | (simp [*]; done)), H', ⟨Nat.le_refl _⟩, ⟨by exact upB Xb.out⟩, ⟨by exact upB Xe.out⟩, ⟨by repeat (first | (with_reducible first | exact HB.out | apply upS | refine below_set ?_ Xv.out | refine below_set ?_ Xw.out) | exact HB.out)⟩⟩
   clear H'
   try clear c1
   try clear c2
   try clear p2
   try clear c7
   try clear c8
   try clear D5
   try clear T2
   try clear Jh
   try clear YF
   try clear YG
   try clear YH
   try clear Yz
   try clear YA
   try clear YB
   try clear Y0
   try clear Y1
   try clear Y2
   try clear YU
   try clear YV
   try clear YW
   try clear YI
   try clear YJ
   try clear YK
   try clear YC
   try clear YD
   try clear YE
   try clear Y3
   try clear Y4
   try clear Y5
   try clear YX
   try clear YY
   try clear YZ
   try clear p2
   obtain ⟨Xo, XA, rfl, HA, HK2, Xb, Xe, HB⟩ := hrel
   cases gk with
   | zero => exact absurd HA.out (by simp [section_Cut.l0])
   | succ k2 =>
    have H := HA.out
    clear HA
    simp only [section_Cut.l0] at H
    by_cases TQ : Xo < (l1.length : Int)
    case pos =>
     rw [if_pos TQ] at H
     have Vz : decide (Xo < (l1.length : Int)) = true := decide_eq_true TQ
     clear TQ
     by_cases Qb : 0 ≤ Xo
     case neg =>
      rw [if_neg Qb] at H
      exact absurd H (by simp)
     rw [if_pos Qb] at H
     have TR : decide (0 ≤ Xo) = true := decide_eq_true Qb
     clear Qb
     by_cases Qc : Xo < (l1.length : Int)
     case neg =>
      rw [if_neg Qc] at H
      exact absurd H (by simp)
     rw [if_pos Qc] at H
     have TS : decide (Xo < (l1.length : Int)) = true := decide_eq_true Qc
     clear Qc
     replace H := Option.bind_eq_some_iff.mp H
     obtain ⟨⟨T3, Yq⟩, Ql, H⟩ := H
     replace H : (if ((rd_T58 l1 Xo).f0 = true) then (section_Cut.l0 k2 l1 l1 (l1.length : Int) (wrap64 (Xo + 1)) a0_0 Xp Xm) else (if Yq = 0 then (section_Cut.l0 k2 l1 l1 (l1.length : Int) (wrap64 (Xo + 1)) a0_0 Xp Xm) else (some (0, ([] : List Int), ([] : List Int), Yq)))) = some (r1, r2, r3, r4) := H
     have D6 := Aside0.mk Ql
     clear Ql
     obtain ⟨bq22, hbq22⟩ : ∃ b_ : Bool, b_ = ((rd_T58 l1 Xo).f0) := ⟨_, rfl⟩
     replace H : (if (bq22 = true) then (section_Cut.l0 k2 l1 l1 (l1.length : Int) (wrap64 (Xo + 1)) a0_0 Xp Xm) else (if Yq = 0 then (section_Cut.l0 k2 l1 l1 (l1.length : Int) (wrap64 (Xo + 1)) a0_0 Xp Xm) else (some (0, ([] : List Int), ([] : List Int), Yq)))) = some (r1, r2, r3, r4) := by rw [← hbq22] at H; exact H
     have Nbq22 := Aside0.mk hbq22
     clear hbq22
     by_cases Qd : (bq22 = true)
     case pos =>
      subst Qd
      have H1 : (section_Cut.l0 k2 l1 l1 (l1.length : Int) (wrap64 (Xo + 1)) a0_0 Xp Xm) = some (r1, r2, r3, r4) := by rw [if_pos rfl] at H; exact H
      clear H
      have H := H1
      clear H1
      have H' := Aside0.mk H
      clear H
      have p133 : 0 ≤ (Xo : Int) := of_decide_eq_true (by first | (with_reducible assumption) | assumption)
      have q133 : Xo < (l1.length : Int) := of_decide_eq_true (by first | (with_reducible assumption) | assumption)
      obtain ⟨ad133, e133, XX, X9, Ya, Yb, Yc⟩ := at_T58 T1.out Xo p133 q133
      (try rw [← Nbq22.out] at XX)
      cases e133
      replace XX := (HB.out.cell (World.block_lt_of_cell? w _ XX)).trans XX
      replace X9 := (HB.out.cell (World.block_lt_of_cell? w _ X9)).trans X9
      replace Ya := (HB.out.cell (World.block_lt_of_cell? w _ Ya)).trans Ya
      replace Yb := (HB.out.cell (World.block_lt_of_cell? w _ Yb)).trans Yb
      replace Yc := (HB.out.cell (World.block_lt_of_cell? w _ Yc)).trans Yc
      replace p133 := eq_true p133
      replace q133 := eq_true q133
      go_wp2_with (first | ((with_reducible refine gate_dst (N := 7) rfl ?_); (try (refine gate_guard (by rfl) ?_; dsimp only)); refine box_event ?hg (N := 7) ?hd (cs := #[.bool false, .int .i64 0, .int .i64 0, .int .i64 0, .int .i64 0]) (t := 58) ?hr ?_; (case hd => rfl); (case hg => rfl); (case hr => first | (go_simp; done) | (go_simp; rfl)); intro Xz hg w24 hbox hb; have X3 := Aside0.mk (blk_below (g := Xk) (o := .cells #[.int .i64 a0_0, .slice XJ Xp.length XG, .slice XI Xm.length XH] 31 (0, 0)) (by exact upB Xb.out) hb); have X4 := Aside0.mk (blk_below (g := Xl) (o := .cells #[.int .i64 XA, .slice none 0 0, .slice none 0 0] 31 (0, 0)) (by exact upB Xe.out) hb); have X5 := Aside0.mk (below_step (by repeat (first | (with_reducible first | exact HB.out | apply upS | refine below_set ?_ Xv.out | refine below_set ?_ Xw.out) | exact HB.out)) hb); have X6 := Aside0.mk (hbox); have Yf := Aside0.mk ((by rw [hg]; exact (below_size (by repeat (first | (with_reducible first | exact HB.out | apply upS | refine below_set ?_ Xv.out | refine below_set ?_ Xw.out) | exact HB.out))) : w.heap.size ≤ Xz)); have Yg := Aside0.mk ((by rw [hg]; exact (below_size (by repeat (first | (with_reducible first | exact HB.out | apply upS | refine below_set ?_ Xv.out | refine below_set ?_ Xw.out) | exact HB.out))) : w.heap.size ≤ Xz)); have Yi := Aside0.mk ((by rw [hg]; exact Nat.ne_of_lt (blk_lt (g := Xk) (o := .cells #[.int .i64 a0_0, .slice XJ Xp.length XG, .slice XI Xm.length XH] 31 (0, 0)) (by exact upB Xb.out)) : Xk ≠ Xz)); have YM := Aside0.mk ((by rw [hg]; exact Nat.ne_of_gt (blk_lt (g := Xk) (o := .cells #[.int .i64 a0_0, .slice XJ Xp.length XG, .slice XI Xm.length XH] 31 (0, 0)) (by exact upB Xb.out)) : Xz ≠ Xk)); have YN := Aside0.mk ((by rw [hg]; exact Nat.ne_of_lt (blk_lt (g := Xl) (o := .cells #[.int .i64 XA, .slice none 0 0, .slice none 0 0] 31 (0, 0)) (by exact upB Xe.out)) : Xl ≠ Xz)); have YO := Aside0.mk ((by rw [hg]; exact Nat.ne_of_gt (blk_lt (g := Xl) (o := .cells #[.int .i64 XA, .slice none 0 0, .slice none 0 0] 31 (0, 0)) (by exact upB Xe.out)) : Xz ≠ Xl)); clear Xb; clear Xe; clear HB; have Xb := X3; have Xe := X4; have HB := X5; have Xu := X6; have TT := Yf; have Yy := Yg; have XD := Yi; have Yl := YM; have XE := YN; have Ym := YO; clear X3 X4 X5 X6 Yf Yg Yi YM YN YO; clear hb hbox hg; have Ji := Yl.out; have Jj := XD.out; have Jk := Ym.out; have Jl := XE.out; have Zd : w24.cell? ⟨Xz, 0, none⟩ = some (.bool false) := (blk_cell Xu.out 0).trans rfl; have Ze : w24.cell? ⟨Xz, 1, none⟩ = some (.int .i64 0) := (blk_cell Xu.out 1).trans rfl; have Zf : w24.cell? ⟨Xz, 2, none⟩ = some (.int .i64 0) := (blk_cell Xu.out 2).trans rfl; have Zg : w24.cell? ⟨Xz, 3, none⟩ = some (.int .i64 0) := (blk_cell Xu.out 3).trans rfl; have Zh : w24.cell? ⟨Xz, 4, none⟩ = some (.int .i64 0) := (blk_cell Xu.out 4).trans rfl; have Zi := blk_frozen Xu.out 0; have Zj := blk_frozen Xu.out 1; have Zk := blk_frozen Xu.out 2; have Zl := blk_frozen Xu.out 3; have Zm := blk_frozen Xu.out 4) | ((with_reducible refine gate_callee (f := 12) rfl ?_); refine goesL_ (some 40) rfl rfl Try.func12 (by kernel_rfl) rfl #[.agg #[.int .i64 ((rd_T58 l1 Xo).f2.f0), .int .i64 ((rd_T58 l1 Xo).f2.f1), .int .i64 ((rd_T58 l1 Xo).f2.f2)]] rfl (by (try simp only [List.map_toArray, List.map_cons, List.map_nil]); first | done | rfl | (simp only [List.length_drop, List.length_take]; rfl)) ?_; (with_reducible refine (section_Count.calls ((rd_T58 l1 Xo).f2.f0) ((rd_T58 l1 Xo).f2.f1) ((rd_T58 l1 Xo).f2.f2) T3 Yq _ D6.out).mono ?_); rintro e w28 ⟨rfl, hb⟩; refine ⟨_, rfl, ?_⟩; have X3 := Aside0.mk (blk_below (g := Xk) (o := .cells #[.int .i64 a0_0, .slice XJ Xp.length XG, .slice XI Xm.length XH] 31 (0, 0)) (by (with_reducible repeat apply upF); refine blk_far ?_ XD.out _; (with_reducible repeat apply upF); refine blk_far ?_ XD.out _; (with_reducible repeat apply upF); refine blk_far ?_ XD.out _; (with_reducible repeat apply upF); refine blk_far ?_ XD.out _; (with_reducible repeat apply upF); refine blk_far ?_ XD.out _; exact upB Xb.out) hb); have X4 := Aside0.mk (blk_below (g := Xl) (o := .cells #[.int .i64 XA, .slice none 0 0, .slice none 0 0] 31 (0, 0)) (by (with_reducible repeat apply upF); refine blk_far ?_ XE.out _; (with_reducible repeat apply upF); refine blk_far ?_ XE.out _; (with_reducible repeat apply upF); refine blk_far ?_ XE.out _; (with_reducible repeat apply upF); refine blk_far ?_ XE.out _; (with_reducible repeat apply upF); refine blk_far ?_ XE.out _; exact upB Xe.out) hb); have X5 := Aside0.mk (blk_below (g := Xz) (o := .cells #[.bool true, .int .i64 ((rd_T58 l1 Xo).f1), .int .i64 ((rd_T58 l1 Xo).f2.f0), .int .i64 ((rd_T58 l1 Xo).f2.f1), .int .i64 ((rd_T58 l1 Xo).f2.f2)] 58 (0, 0)) (by (with_reducible repeat apply upF); refine blk_put (cs := #[.bool true, .int .i64 ((rd_T58 l1 Xo).f1), .int .i64 ((rd_T58 l1 Xo).f2.f0), .int .i64 ((rd_T58 l1 Xo).f2.f1), .int .i64 0]) ?_ 4 _ rfl; (with_reducible repeat apply upF); refine blk_put (cs := #[.bool true, .int .i64 ((rd_T58 l1 Xo).f1), .int .i64 ((rd_T58 l1 Xo).f2.f0), .int .i64 0, .int .i64 0]) ?_ 3 _ rfl; (with_reducible repeat apply upF); refine blk_put (cs := #[.bool true, .int .i64 ((rd_T58 l1 Xo).f1), .int .i64 0, .int .i64 0, .int .i64 0]) ?_ 2 _ rfl; (with_reducible repeat apply upF); refine blk_put (cs := #[.bool true, .int .i64 0, .int .i64 0, .int .i64 0, .int .i64 0]) ?_ 1 _ rfl; (with_reducible repeat apply upF); refine blk_put (cs := #[.bool false, .int .i64 0, .int .i64 0, .int .i64 0, .int .i64 0]) ?_ 0 _ rfl; exact upB Xu.out) hb); have X6 := Aside0.mk (below_step (by repeat (first | (with_reducible first | exact HB.out | apply upS | refine below_set ?_ Xv.out | refine below_set ?_ Xw.out | refine below_set ?_ Yy.out) | exact HB.out)) hb); clear Xb; clear Xe; clear Xu; clear HB; have Xb := X3; have Xe := X4; have Xu := X5; have HB := X6; clear X3 X4 X5 X6; (try clear hb); (try clear Qk); (try clear hk); (try clear hi); have Zn : w28.cell? ⟨Xz, 0, none⟩ = some (.bool true) := (blk_cell Xu.out 0).trans rfl; have Zo : w28.cell? ⟨Xz, 1, none⟩ = some (.int .i64 ((rd_T58 l1 Xo).f1)) := (blk_cell Xu.out 1).trans rfl; have Zp : w28.cell? ⟨Xz, 2, none⟩ = some (.int .i64 ((rd_T58 l1 Xo).f2.f0)) := (blk_cell Xu.out 2).trans rfl; have Zq : w28.cell? ⟨Xz, 3, none⟩ = some (.int .i64 ((rd_T58 l1 Xo).f2.f1)) := (blk_cell Xu.out 3).trans rfl; have Zr : w28.cell? ⟨Xz, 4, none⟩ = some (.int .i64 ((rd_T58 l1 Xo).f2.f2)) := (blk_cell Xu.out 4).trans rfl; have Zs := blk_frozen Xu.out 0; have Zt := blk_frozen Xu.out 1; have Zu := blk_frozen Xu.out 2; have Zv := blk_frozen Xu.out 3; have Zw := blk_frozen Xu.out 4))
      go_roundg k2
      case measure => have := HJ2.out; have := HK2.out; omega
      case rel => exact ⟨(wrap64 (Xo + 1)), (XA), (by first | rfl | (simp; done) | (simp [*]; done)), H', ⟨by have := HJ2.out; have := HK2.out; omega⟩, ⟨by exact upB Xb.out⟩, ⟨by exact upB Xe.out⟩, ⟨by repeat (first | (with_reducible first | exact HB.out | apply upS | refine below_set ?_ Xv.out | refine below_set ?_ Xw.out | refine below_set ?_ Yy.out) | exact HB.out)⟩⟩
     replace Qd := Bool.eq_false_iff.mpr Qd
     subst Qd
     have H1 : (if Yq = 0 then (section_Cut.l0 k2 l1 l1 (l1.length : Int) (wrap64 (Xo + 1)) a0_0 Xp Xm) else (some (0, ([] : List Int), ([] : List Int), Yq))) = some (r1, r2, r3, r4) := by rw [if_neg (show ¬ (false = true) by decide)] at H; exact H
     clear H
     have H := H1
     clear H1
     by_cases UB : Yq = 0
     case pos =>
      rw [if_pos UB] at H
      have VA : (Yq == 0) = true := beq_iff_eq.mpr UB
      have VB : (Yq != 0) = false := bne_eq_false_iff_eq.mpr UB
      clear UB
      have H' := Aside0.mk H
      clear H
      have p133 : 0 ≤ (Xo : Int) := of_decide_eq_true (by first | (with_reducible assumption) | assumption)
      have q133 : Xo < (l1.length : Int) := of_decide_eq_true (by first | (with_reducible assumption) | assumption)
      obtain ⟨ad133, e133, XX, X9, Ya, Yb, Yc⟩ := at_T58 T1.out Xo p133 q133
      (try rw [← Nbq22.out] at XX)
      cases e133
      replace XX := (HB.out.cell (World.block_lt_of_cell? w _ XX)).trans XX
      replace X9 := (HB.out.cell (World.block_lt_of_cell? w _ X9)).trans X9
      replace Ya := (HB.out.cell (World.block_lt_of_cell? w _ Ya)).trans Ya
      replace Yb := (HB.out.cell (World.block_lt_of_cell? w _ Yb)).trans Yb
      replace Yc := (HB.out.cell (World.block_lt_of_cell? w _ Yc)).trans Yc
      replace p133 := eq_true p133
      replace q133 := eq_true q133
      go_wp2_with (first | ((with_reducible refine gate_dst (N := 7) rfl ?_); (try (refine gate_guard (by rfl) ?_; dsimp only)); refine box_event ?hg (N := 7) ?hd (cs := #[.bool false, .int .i64 0, .int .i64 0, .int .i64 0, .int .i64 0]) (t := 58) ?hr ?_; (case hd => rfl); (case hg => rfl); (case hr => first | (go_simp; done) | (go_simp; rfl)); intro Xz hg w31 hbox hb; have X3 := Aside0.mk (blk_below (g := Xk) (o := .cells #[.int .i64 a0_0, .slice XJ Xp.length XG, .slice XI Xm.length XH] 31 (0, 0)) (by exact upB Xb.out) hb); have X4 := Aside0.mk (blk_below (g := Xl) (o := .cells #[.int .i64 XA, .slice none 0 0, .slice none 0 0] 31 (0, 0)) (by exact upB Xe.out) hb); have X5 := Aside0.mk (below_step (by repeat (first | (with_reducible first | exact HB.out | apply upS | refine below_set ?_ Xv.out | refine below_set ?_ Xw.out) | exact HB.out)) hb); have X6 := Aside0.mk (hbox); have Yf := Aside0.mk ((by rw [hg]; exact (below_size (by repeat (first | (with_reducible first | exact HB.out | apply upS | refine below_set ?_ Xv.out | refine below_set ?_ Xw.out) | exact HB.out))) : w.heap.size ≤ Xz)); have Yg := Aside0.mk ((by rw [hg]; exact (below_size (by repeat (first | (with_reducible first | exact HB.out | apply upS | refine below_set ?_ Xv.out | refine below_set ?_ Xw.out) | exact HB.out))) : w.heap.size ≤ Xz)); have Yi := Aside0.mk ((by rw [hg]; exact Nat.ne_of_lt (blk_lt (g := Xk) (o := .cells #[.int .i64 a0_0, .slice XJ Xp.length XG, .slice XI Xm.length XH] 31 (0, 0)) (by exact upB Xb.out)) : Xk ≠ Xz)); have YM := Aside0.mk ((by rw [hg]; exact Nat.ne_of_gt (blk_lt (g := Xk) (o := .cells #[.int .i64 a0_0, .slice XJ Xp.length XG, .slice XI Xm.length XH] 31 (0, 0)) (by exact upB Xb.out)) : Xz ≠ Xk)); have YN := Aside0.mk ((by rw [hg]; exact Nat.ne_of_lt (blk_lt (g := Xl) (o := .cells #[.int .i64 XA, .slice none 0 0, .slice none 0 0] 31 (0, 0)) (by exact upB Xe.out)) : Xl ≠ Xz)); have YO := Aside0.mk ((by rw [hg]; exact Nat.ne_of_gt (blk_lt (g := Xl) (o := .cells #[.int .i64 XA, .slice none 0 0, .slice none 0 0] 31 (0, 0)) (by exact upB Xe.out)) : Xz ≠ Xl)); clear Xb; clear Xe; clear HB; have Xb := X3; have Xe := X4; have HB := X5; have Xu := X6; have TT := Yf; have Yy := Yg; have XD := Yi; have Yl := YM; have XE := YN; have Ym := YO; clear X3 X4 X5 X6 Yf Yg Yi YM YN YO; clear hb hbox hg; have Jm := Yl.out; have Jn := XD.out; have Jo := Ym.out; have Jp := XE.out; have Zx : w31.cell? ⟨Xz, 0, none⟩ = some (.bool false) := (blk_cell Xu.out 0).trans rfl; have Zy : w31.cell? ⟨Xz, 1, none⟩ = some (.int .i64 0) := (blk_cell Xu.out 1).trans rfl; have Zz : w31.cell? ⟨Xz, 2, none⟩ = some (.int .i64 0) := (blk_cell Xu.out 2).trans rfl; have ZA : w31.cell? ⟨Xz, 3, none⟩ = some (.int .i64 0) := (blk_cell Xu.out 3).trans rfl; have ZB : w31.cell? ⟨Xz, 4, none⟩ = some (.int .i64 0) := (blk_cell Xu.out 4).trans rfl; have ZC := blk_frozen Xu.out 0; have ZD := blk_frozen Xu.out 1; have ZE := blk_frozen Xu.out 2; have ZF := blk_frozen Xu.out 3; have ZG := blk_frozen Xu.out 4) | ((with_reducible refine gate_callee (f := 12) rfl ?_); refine goesL_ (some 40) rfl rfl Try.func12 (by kernel_rfl) rfl #[.agg #[.int .i64 ((rd_T58 l1 Xo).f2.f0), .int .i64 ((rd_T58 l1 Xo).f2.f1), .int .i64 ((rd_T58 l1 Xo).f2.f2)]] rfl (by (try simp only [List.map_toArray, List.map_cons, List.map_nil]); first | done | rfl | (simp only [List.length_drop, List.length_take]; rfl)) ?_; (with_reducible refine (section_Count.calls ((rd_T58 l1 Xo).f2.f0) ((rd_T58 l1 Xo).f2.f1) ((rd_T58 l1 Xo).f2.f2) T3 Yq _ D6.out).mono ?_); rintro e w35 ⟨rfl, hb⟩; refine ⟨_, rfl, ?_⟩; have X3 := Aside0.mk (blk_below (g := Xk) (o := .cells #[.int .i64 a0_0, .slice XJ Xp.length XG, .slice XI Xm.length XH] 31 (0, 0)) (by (with_reducible repeat apply upF); refine blk_far ?_ XD.out _; (with_reducible repeat apply upF); refine blk_far ?_ XD.out _; (with_reducible repeat apply upF); refine blk_far ?_ XD.out _; (with_reducible repeat apply upF); refine blk_far ?_ XD.out _; (with_reducible repeat apply upF); refine blk_far ?_ XD.out _; exact upB Xb.out) hb); have X4 := Aside0.mk (blk_below (g := Xl) (o := .cells #[.int .i64 XA, .slice none 0 0, .slice none 0 0] 31 (0, 0)) (by (with_reducible repeat apply upF); refine blk_far ?_ XE.out _; (with_reducible repeat apply upF); refine blk_far ?_ XE.out _; (with_reducible repeat apply upF); refine blk_far ?_ XE.out _; (with_reducible repeat apply upF); refine blk_far ?_ XE.out _; (with_reducible repeat apply upF); refine blk_far ?_ XE.out _; exact upB Xe.out) hb); have X5 := Aside0.mk (blk_below (g := Xz) (o := .cells #[.bool false, .int .i64 ((rd_T58 l1 Xo).f1), .int .i64 ((rd_T58 l1 Xo).f2.f0), .int .i64 ((rd_T58 l1 Xo).f2.f1), .int .i64 ((rd_T58 l1 Xo).f2.f2)] 58 (0, 0)) (by (with_reducible repeat apply upF); refine blk_put (cs := #[.bool false, .int .i64 ((rd_T58 l1 Xo).f1), .int .i64 ((rd_T58 l1 Xo).f2.f0), .int .i64 ((rd_T58 l1 Xo).f2.f1), .int .i64 0]) ?_ 4 _ rfl; (with_reducible repeat apply upF); refine blk_put (cs := #[.bool false, .int .i64 ((rd_T58 l1 Xo).f1), .int .i64 ((rd_T58 l1 Xo).f2.f0), .int .i64 0, .int .i64 0]) ?_ 3 _ rfl; (with_reducible repeat apply upF); refine blk_put (cs := #[.bool false, .int .i64 ((rd_T58 l1 Xo).f1), .int .i64 0, .int .i64 0, .int .i64 0]) ?_ 2 _ rfl; (with_reducible repeat apply upF); refine blk_put (cs := #[.bool false, .int .i64 0, .int .i64 0, .int .i64 0, .int .i64 0]) ?_ 1 _ rfl; (with_reducible repeat apply upF); refine blk_put (cs := #[.bool false, .int .i64 0, .int .i64 0, .int .i64 0, .int .i64 0]) ?_ 0 _ rfl; exact upB Xu.out) hb); have X6 := Aside0.mk (below_step (by repeat (first | (with_reducible first | exact HB.out | apply upS | refine below_set ?_ Xv.out | refine below_set ?_ Xw.out | refine below_set ?_ Yy.out) | exact HB.out)) hb); clear Xb; clear Xe; clear Xu; clear HB; have Xb := X3; have Xe := X4; have Xu := X5; have HB := X6; clear X3 X4 X5 X6; (try clear hb); (try clear Qk); (try clear hk); (try clear hi); have ZH : w35.cell? ⟨Xz, 0, none⟩ = some (.bool false) := (blk_cell Xu.out 0).trans rfl; have ZI : w35.cell? ⟨Xz, 1, none⟩ = some (.int .i64 ((rd_T58 l1 Xo).f1)) := (blk_cell Xu.out 1).trans rfl; have ZJ : w35.cell? ⟨Xz, 2, none⟩ = some (.int .i64 ((rd_T58 l1 Xo).f2.f0)) := (blk_cell Xu.out 2).trans rfl; have ZK : w35.cell? ⟨Xz, 3, none⟩ = some (.int .i64 ((rd_T58 l1 Xo).f2.f1)) := (blk_cell Xu.out 3).trans rfl; have ZL : w35.cell? ⟨Xz, 4, none⟩ = some (.int .i64 ((rd_T58 l1 Xo).f2.f2)) := (blk_cell Xu.out 4).trans rfl; have ZM := blk_frozen Xu.out 0; have ZN := blk_frozen Xu.out 1; have ZO := blk_frozen Xu.out 2; have ZP := blk_frozen Xu.out 3; have ZQ := blk_frozen Xu.out 4))
      go_roundg k2
      case measure => have := HJ2.out; have := HK2.out; omega
      case rel => exact ⟨(wrap64 (Xo + 1)), (XA), (by first | rfl | (simp; done) | (simp [*]; done)), H', ⟨by have := HJ2.out; have := HK2.out; omega⟩, ⟨by exact upB Xb.out⟩, ⟨by exact upB Xe.out⟩, ⟨by repeat (first | (with_reducible first | exact HB.out | apply upS | refine below_set ?_ Xv.out | refine below_set ?_ Xw.out | refine below_set ?_ Yy.out) | exact HB.out)⟩⟩
     rw [if_neg UB] at H
     have VA : (Yq == 0) = false := beq_eq_false_iff_ne.mpr UB
     have VB : (Yq != 0) = true := bne_iff_ne.mpr UB
     simp only [Option.some.injEq, Prod.mk.injEq] at H
     obtain ⟨rfl, rfl, rfl, rfl⟩ := H
     have p133 : 0 ≤ (Xo : Int) := of_decide_eq_true (by first | (with_reducible assumption) | assumption)
     have q133 : Xo < (l1.length : Int) := of_decide_eq_true (by first | (with_reducible assumption) | assumption)
     obtain ⟨ad133, e133, XX, X9, Ya, Yb, Yc⟩ := at_T58 T1.out Xo p133 q133
     (try rw [← Nbq22.out] at XX)
     cases e133
     replace XX := (HB.out.cell (World.block_lt_of_cell? w _ XX)).trans XX
     replace X9 := (HB.out.cell (World.block_lt_of_cell? w _ X9)).trans X9
     replace Ya := (HB.out.cell (World.block_lt_of_cell? w _ Ya)).trans Ya
     replace Yb := (HB.out.cell (World.block_lt_of_cell? w _ Yb)).trans Yb
     replace Yc := (HB.out.cell (World.block_lt_of_cell? w _ Yc)).trans Yc
     replace p133 := eq_true p133
     replace q133 := eq_true q133
     go_wp2_with (first | ((with_reducible refine gate_dst (N := 7) rfl ?_); (try (refine gate_guard (by rfl) ?_; dsimp only)); refine box_event ?hg (N := 7) ?hd (cs := #[.bool false, .int .i64 0, .int .i64 0, .int .i64 0, .int .i64 0]) (t := 58) ?hr ?_; (case hd => rfl); (case hg => rfl); (case hr => first | (go_simp; done) | (go_simp; rfl)); intro Xz hg w37 hbox hb; have X3 := Aside0.mk (blk_below (g := Xk) (o := .cells #[.int .i64 a0_0, .slice XJ Xp.length XG, .slice XI Xm.length XH] 31 (0, 0)) (by exact upB Xb.out) hb); have X4 := Aside0.mk (blk_below (g := Xl) (o := .cells #[.int .i64 XA, .slice none 0 0, .slice none 0 0] 31 (0, 0)) (by exact upB Xe.out) hb); have X5 := Aside0.mk (below_step (by repeat (first | (with_reducible first | exact HB.out | apply upS | refine below_set ?_ Xv.out | refine below_set ?_ Xw.out) | exact HB.out)) hb); have X6 := Aside0.mk (hbox); have Yf := Aside0.mk ((by rw [hg]; exact (below_size (by repeat (first | (with_reducible first | exact HB.out | apply upS | refine below_set ?_ Xv.out | refine below_set ?_ Xw.out) | exact HB.out))) : w.heap.size ≤ Xz)); have Yg := Aside0.mk ((by rw [hg]; exact (below_size (by repeat (first | (with_reducible first | exact HB.out | apply upS | refine below_set ?_ Xv.out | refine below_set ?_ Xw.out) | exact HB.out))) : w.heap.size ≤ Xz)); have Yi := Aside0.mk ((by rw [hg]; exact Nat.ne_of_lt (blk_lt (g := Xk) (o := .cells #[.int .i64 a0_0, .slice XJ Xp.length XG, .slice XI Xm.length XH] 31 (0, 0)) (by exact upB Xb.out)) : Xk ≠ Xz)); have YM := Aside0.mk ((by rw [hg]; exact Nat.ne_of_gt (blk_lt (g := Xk) (o := .cells #[.int .i64 a0_0, .slice XJ Xp.length XG, .slice XI Xm.length XH] 31 (0, 0)) (by exact upB Xb.out)) : Xz ≠ Xk)); have YN := Aside0.mk ((by rw [hg]; exact Nat.ne_of_lt (blk_lt (g := Xl) (o := .cells #[.int .i64 XA, .slice none 0 0, .slice none 0 0] 31 (0, 0)) (by exact upB Xe.out)) : Xl ≠ Xz)); have YO := Aside0.mk ((by rw [hg]; exact Nat.ne_of_gt (blk_lt (g := Xl) (o := .cells #[.int .i64 XA, .slice none 0 0, .slice none 0 0] 31 (0, 0)) (by exact upB Xe.out)) : Xz ≠ Xl)); clear Xb; clear Xe; clear HB; have Xb := X3; have Xe := X4; have HB := X5; have Xu := X6; have TT := Yf; have Yy := Yg; have XD := Yi; have Yl := YM; have XE := YN; have Ym := YO; clear X3 X4 X5 X6 Yf Yg Yi YM YN YO; clear hb hbox hg; have Jq := Yl.out; have Jr := XD.out; have Js := Ym.out; have Jt := XE.out; have ZR : w37.cell? ⟨Xz, 0, none⟩ = some (.bool false) := (blk_cell Xu.out 0).trans rfl; have ZS : w37.cell? ⟨Xz, 1, none⟩ = some (.int .i64 0) := (blk_cell Xu.out 1).trans rfl; have ZT : w37.cell? ⟨Xz, 2, none⟩ = some (.int .i64 0) := (blk_cell Xu.out 2).trans rfl; have ZU : w37.cell? ⟨Xz, 3, none⟩ = some (.int .i64 0) := (blk_cell Xu.out 3).trans rfl; have ZV : w37.cell? ⟨Xz, 4, none⟩ = some (.int .i64 0) := (blk_cell Xu.out 4).trans rfl; have ZW := blk_frozen Xu.out 0; have ZX := blk_frozen Xu.out 1; have ZY := blk_frozen Xu.out 2; have ZZ := blk_frozen Xu.out 3; have Z0 := blk_frozen Xu.out 4) | ((with_reducible refine gate_callee (f := 12) rfl ?_); refine goesL_ (some 40) rfl rfl Try.func12 (by kernel_rfl) rfl #[.agg #[.int .i64 ((rd_T58 l1 Xo).f2.f0), .int .i64 ((rd_T58 l1 Xo).f2.f1), .int .i64 ((rd_T58 l1 Xo).f2.f2)]] rfl (by (try simp only [List.map_toArray, List.map_cons, List.map_nil]); first | done | rfl | (simp only [List.length_drop, List.length_take]; rfl)) ?_; (with_reducible refine (section_Count.calls ((rd_T58 l1 Xo).f2.f0) ((rd_T58 l1 Xo).f2.f1) ((rd_T58 l1 Xo).f2.f2) T3 Yq _ D6.out).mono ?_); rintro e w41 ⟨rfl, hb⟩; refine ⟨_, rfl, ?_⟩; have X3 := Aside0.mk (blk_below (g := Xk) (o := .cells #[.int .i64 a0_0, .slice XJ Xp.length XG, .slice XI Xm.length XH] 31 (0, 0)) (by (with_reducible repeat apply upF); refine blk_far ?_ XD.out _; (with_reducible repeat apply upF); refine blk_far ?_ XD.out _; (with_reducible repeat apply upF); refine blk_far ?_ XD.out _; (with_reducible repeat apply upF); refine blk_far ?_ XD.out _; (with_reducible repeat apply upF); refine blk_far ?_ XD.out _; exact upB Xb.out) hb); have X4 := Aside0.mk (blk_below (g := Xl) (o := .cells #[.int .i64 XA, .slice none 0 0, .slice none 0 0] 31 (0, 0)) (by (with_reducible repeat apply upF); refine blk_far ?_ XE.out _; (with_reducible repeat apply upF); refine blk_far ?_ XE.out _; (with_reducible repeat apply upF); refine blk_far ?_ XE.out _; (with_reducible repeat apply upF); refine blk_far ?_ XE.out _; (with_reducible repeat apply upF); refine blk_far ?_ XE.out _; exact upB Xe.out) hb); have X5 := Aside0.mk (blk_below (g := Xz) (o := .cells #[.bool false, .int .i64 ((rd_T58 l1 Xo).f1), .int .i64 ((rd_T58 l1 Xo).f2.f0), .int .i64 ((rd_T58 l1 Xo).f2.f1), .int .i64 ((rd_T58 l1 Xo).f2.f2)] 58 (0, 0)) (by (with_reducible repeat apply upF); refine blk_put (cs := #[.bool false, .int .i64 ((rd_T58 l1 Xo).f1), .int .i64 ((rd_T58 l1 Xo).f2.f0), .int .i64 ((rd_T58 l1 Xo).f2.f1), .int .i64 0]) ?_ 4 _ rfl; (with_reducible repeat apply upF); refine blk_put (cs := #[.bool false, .int .i64 ((rd_T58 l1 Xo).f1), .int .i64 ((rd_T58 l1 Xo).f2.f0), .int .i64 0, .int .i64 0]) ?_ 3 _ rfl; (with_reducible repeat apply upF); refine blk_put (cs := #[.bool false, .int .i64 ((rd_T58 l1 Xo).f1), .int .i64 0, .int .i64 0, .int .i64 0]) ?_ 2 _ rfl; (with_reducible repeat apply upF); refine blk_put (cs := #[.bool false, .int .i64 0, .int .i64 0, .int .i64 0, .int .i64 0]) ?_ 1 _ rfl; (with_reducible repeat apply upF); refine blk_put (cs := #[.bool false, .int .i64 0, .int .i64 0, .int .i64 0, .int .i64 0]) ?_ 0 _ rfl; exact upB Xu.out) hb); have X6 := Aside0.mk (below_step (by repeat (first | (with_reducible first | exact HB.out | apply upS | refine below_set ?_ Xv.out | refine below_set ?_ Xw.out | refine below_set ?_ Yy.out) | exact HB.out)) hb); clear Xb; clear Xe; clear Xu; clear HB; have Xb := X3; have Xe := X4; have Xu := X5; have HB := X6; clear X3 X4 X5 X6; (try clear hb); (try clear Qk); (try clear hk); (try clear hi); have Z1 : w41.cell? ⟨Xz, 0, none⟩ = some (.bool false) := (blk_cell Xu.out 0).trans rfl; have Z2 : w41.cell? ⟨Xz, 1, none⟩ = some (.int .i64 ((rd_T58 l1 Xo).f1)) := (blk_cell Xu.out 1).trans rfl; have Z3 : w41.cell? ⟨Xz, 2, none⟩ = some (.int .i64 ((rd_T58 l1 Xo).f2.f0)) := (blk_cell Xu.out 2).trans rfl; have Z4 : w41.cell? ⟨Xz, 3, none⟩ = some (.int .i64 ((rd_T58 l1 Xo).f2.f1)) := (blk_cell Xu.out 3).trans rfl; have Z5 : w41.cell? ⟨Xz, 4, none⟩ = some (.int .i64 ((rd_T58 l1 Xo).f2.f2)) := (blk_cell Xu.out 4).trans rfl; have Z6 := blk_frozen Xu.out 0; have Z7 := blk_frozen Xu.out 1; have Z8 := blk_frozen Xu.out 2; have Z9 := blk_frozen Xu.out 3; have Va := blk_frozen Xu.out 4; have Ju := XL.out; have Jv := XK.out; have Vb : w41.cell? ⟨Xl, 0, none⟩ = some (.int .i64 XA) := (blk_cell Xe.out 0).trans rfl; have Vc : w41.cell? ⟨Xl, 1, none⟩ = some (.slice none 0 0) := (blk_cell Xe.out 1).trans rfl; have Vd : w41.cell? ⟨Xl, 2, none⟩ = some (.slice none 0 0) := (blk_cell Xe.out 2).trans rfl; have Ve := blk_frozen Xe.out 0; have Vf := blk_frozen Xe.out 1; have Vg := blk_frozen Xe.out 2))
     refine bodyPost_ret (results_ct rfl _ _ Xl 31 #[.int .i64 0, .slice none 0 0, .slice none 0 0] (0, 0) _ rfl (by (with_reducible repeat apply upF); refine blk_put (cs := #[.int .i64 0, .slice none 0 0, .slice none 0 0]) ?_ 2 _ rfl; (with_reducible repeat apply upF); refine blk_put (cs := #[.int .i64 0, .slice none 0 0, .slice none 0 0]) ?_ 1 _ rfl; (with_reducible repeat apply upF); refine blk_put (cs := #[.int .i64 XA, .slice none 0 0, .slice none 0 0]) ?_ 0 _ rfl; exact upB Xe.out) Try.underlying31 rfl (by kernel_rfl)) rfl ?_
     exact ⟨_, _, by first | (simp only [Array.getD_eq_getD_getElem?, List.getElem?_toArray, List.getElem?_cons_succ, List.getElem?_cons_zero, Option.getD_some] <;> rfl) | rfl | (simp [errW_none, errW_some] <;> rfl) | (simp [*, errW_none, errW_some] <;> rfl), by first | exact Kd.R_nil _ _ _ _ _ | exact Kd.N_nil _ _ _ _ _ | exact Kd.V_nil _ _ _ _ _ | exact Kd.Q_nil _ _ _ _ _ | exact Kd.S_nil _ _ _ _ _, by first | exact Kd.R_nil _ _ _ _ _ | exact Kd.N_nil _ _ _ _ _ | exact Kd.V_nil _ _ _ _ _ | exact Kd.Q_nil _ _ _ _ _ | exact Kd.S_nil _ _ _ _ _, by repeat (first | (with_reducible first | exact HB.out | apply upS | refine below_set ?_ Xv.out | refine below_set ?_ Xw.out | refine below_set ?_ Yy.out) | exact HB.out)⟩
    rw [if_neg TQ] at H
    have Vz : decide (Xo < (l1.length : Int)) = false := decide_eq_false TQ
    clear TQ
    have H' := Aside0.mk H
    clear H
    have Jw := XK.out
    have Jx := XL.out
    have Vh : wr.cell? ⟨Xk, 0, none⟩ = some (.int .i64 a0_0) := (blk_cell Xb.out 0).trans rfl
    have Vi : wr.cell? ⟨Xk, 1, none⟩ = some (.slice XJ Xp.length XG) := (blk_cell Xb.out 1).trans rfl
    have Vj : wr.cell? ⟨Xk, 2, none⟩ = some (.slice XI Xm.length XH) := (blk_cell Xb.out 2).trans rfl
    have Vk := blk_frozen Xb.out 0
    have Vl := blk_frozen Xb.out 1
    have Vm := blk_frozen Xb.out 2
    go_wp2_with (first | ((with_reducible refine gate_dst (N := 10) rfl ?_); (try (refine gate_guard (by rfl) ?_; dsimp only)); refine box_event ?hg (N := 10) ?hd (cs := #[.int .i64 0, .slice none 0 0, .slice none 0 0]) (t := 31) ?hr ?_; (case hd => rfl); (case hg => rfl); (case hr => first | (go_simp; done) | (go_simp; rfl)); intro Xn hg w47 hbox hb; have X3 := Aside0.mk (blk_below (g := Xk) (o := .cells #[.int .i64 a0_0, .slice XJ Xp.length XG, .slice XI Xm.length XH] 31 (0, 0)) (by exact upB Xb.out) hb); have X4 := Aside0.mk (blk_below (g := Xl) (o := .cells #[.int .i64 XA, .slice none 0 0, .slice none 0 0] 31 (0, 0)) (by exact upB Xe.out) hb); have X5 := Aside0.mk (below_step (by repeat (first | (with_reducible first | exact HB.out | apply upS | refine below_set ?_ Xv.out | refine below_set ?_ Xw.out) | exact HB.out)) hb); have X6 := Aside0.mk (hbox); have Yf := Aside0.mk ((by rw [hg]; exact (below_size (by repeat (first | (with_reducible first | exact HB.out | apply upS | refine below_set ?_ Xv.out | refine below_set ?_ Xw.out) | exact HB.out))) : w.heap.size ≤ Xn)); have Yg := Aside0.mk ((by rw [hg]; exact (below_size (by repeat (first | (with_reducible first | exact HB.out | apply upS | refine below_set ?_ Xv.out | refine below_set ?_ Xw.out) | exact HB.out))) : w.heap.size ≤ Xn)); have Yi := Aside0.mk ((by rw [hg]; exact Nat.ne_of_lt (blk_lt (g := Xk) (o := .cells #[.int .i64 a0_0, .slice XJ Xp.length XG, .slice XI Xm.length XH] 31 (0, 0)) (by exact upB Xb.out)) : Xk ≠ Xn)); have YM := Aside0.mk ((by rw [hg]; exact Nat.ne_of_gt (blk_lt (g := Xk) (o := .cells #[.int .i64 a0_0, .slice XJ Xp.length XG, .slice XI Xm.length XH] 31 (0, 0)) (by exact upB Xb.out)) : Xn ≠ Xk)); have YN := Aside0.mk ((by rw [hg]; exact Nat.ne_of_lt (blk_lt (g := Xl) (o := .cells #[.int .i64 XA, .slice none 0 0, .slice none 0 0] 31 (0, 0)) (by exact upB Xe.out)) : Xl ≠ Xn)); have YO := Aside0.mk ((by rw [hg]; exact Nat.ne_of_gt (blk_lt (g := Xl) (o := .cells #[.int .i64 XA, .slice none 0 0, .slice none 0 0] 31 (0, 0)) (by exact upB Xe.out)) : Xn ≠ Xl)); clear Xb; clear Xe; clear HB; have Xb := X3; have Xe := X4; have HB := X5; have Xf := X6; have TU := Yf; have XN := Yg; have XB := Yi; have XU := YM; have Xy := YN; have XV := YO; clear X3 X4 X5 X6 Yf Yg Yi YM YN YO; clear hb hbox hg; have Jy := XU.out; have Jz := XB.out; have JA := XV.out; have JB := Xy.out; have Vn : w47.cell? ⟨Xn, 0, none⟩ = some (.int .i64 0) := (blk_cell Xf.out 0).trans rfl; have Vo : w47.cell? ⟨Xn, 1, none⟩ = some (.slice none 0 0) := (blk_cell Xf.out 1).trans rfl; have Vp : w47.cell? ⟨Xn, 2, none⟩ = some (.slice none 0 0) := (blk_cell Xf.out 2).trans rfl; have Vq := blk_frozen Xf.out 0; have Vr := blk_frozen Xf.out 1; have Vs := blk_frozen Xf.out 2))
    go_loopg [58] k2 (fun kq v58 w' => ∃ (Xa : Int) (Xr : Int) (Xd : Int) (Xs : List Int) (Xq : List Int) (u138001 : Value) (u138002 : Value), v58 = .int .i64 Xa ∧ Aside0 (section_Cut.l1 kq l1 (l1.length : Int) Xa a0_0 Xp Xm Xd Xs Xq = some (r1, r2, r3, r4)) ∧ Aside0 (kq ≤ k2) ∧ Aside0 (Kd.R (Kd.int .i64) 3 w' w.heap.size (fun k_ => some k_ ≠ (u138002 : Value).ownBlock) u138001 Xs) ∧ Aside0 (Kd.R (Kd.int .i64) 3 w' w.heap.size (fun k_ => some k_ ≠ (u138001 : Value).ownBlock) u138002 Xq) ∧ Aside0 (w'.heap[Xk]? = some (.cells #[.int .i64 a0_0, (.slice XJ Xp.length XG), (.slice XI Xm.length XH)] 31 (0, 0))) ∧ Aside0 (w'.heap[Xl]? = some (.cells #[.int .i64 Xr, (.slice none 0 0), (.slice none 0 0)] 31 (0, 0))) ∧ Aside0 (w'.heap[Xn]? = some (.cells #[.int .i64 Xd, u138001, u138002] 31 (0, 0))) ∧ Aside0 (Below w.heap.size w w'))
    case atStart => exact ⟨(0), (XA), (a0_0), (([] : List Int)), (([] : List Int)), (.slice none 0 0), (.slice none 0 0), (by first | rfl | (simp; done) | (simp [*]; done)), H', ⟨Nat.le_refl _⟩, ⟨by first | exact Kd.R_nil _ _ _ _ _ | exact Kd.N_nil _ _ _ _ _ | exact Kd.V_nil _ _ _ _ _ | exact Kd.Q_nil _ _ _ _ _ | exact Kd.S_nil _ _ _ _ _⟩, ⟨by first | exact Kd.R_nil _ _ _ _ _ | exact Kd.N_nil _ _ _ _ _ | exact Kd.V_nil _ _ _ _ _ | exact Kd.Q_nil _ _ _ _ _ | exact Kd.S_nil _ _ _ _ _⟩, ⟨by (with_reducible repeat apply upF); refine blk_far ?_ XB.out _; (with_reducible repeat apply upF); refine blk_far ?_ XB.out _; (with_reducible repeat apply upF); refine blk_far ?_ XB.out _; exact upB Xb.out⟩, ⟨by (with_reducible repeat apply upF); refine blk_far ?_ Xy.out _; (with_reducible repeat apply upF); refine blk_far ?_ Xy.out _; (with_reducible repeat apply upF); refine blk_far ?_ Xy.out _; exact upB Xe.out⟩, ⟨by (with_reducible repeat apply upF); refine blk_put (cs := #[.int .i64 a0_0, .slice none 0 0, .slice none 0 0]) ?_ 2 _ rfl; (with_reducible repeat apply upF); refine blk_put (cs := #[.int .i64 a0_0, .slice none 0 0, .slice none 0 0]) ?_ 1 _ rfl; (with_reducible repeat apply upF); refine blk_put (cs := #[.int .i64 0, .slice none 0 0, .slice none 0 0]) ?_ 0 _ rfl; exact upB Xf.out⟩, ⟨by repeat (first | (with_reducible first | exact HB.out | apply upS | refine below_set ?_ Xv.out | refine below_set ?_ Xw.out | refine below_set ?_ XN.out) | exact HB.out)⟩⟩
    clear H'
    try clear c1
    try clear p1
    try clear q1
    try clear Kn
    try clear c2
    try clear p2
    try clear q2
    try clear c3
    try clear c4
    try clear p6
    try clear c7
    try clear c8
    try clear D5
    try clear p13
    try clear q13
    try clear D7
    try clear T2
    try clear Jh
    try clear TQ
    try clear Vz
    try clear Qb
    try clear TR
    try clear Qc
    try clear TS
    try clear q22
    try clear Qd
    try clear Ko
    try clear Kp
    try clear UB
    try clear VA
    try clear VB
    try clear Kq
    try clear Kr
    try clear Ks
    try clear Kt
    try clear Ku
    try clear Kv
    try clear Kw
    try clear Kx
    try clear YF
    try clear YG
    try clear YH
    try clear Yz
    try clear YA
    try clear YB
    try clear Y0
    try clear Y1
    try clear Y2
    try clear Zd
    try clear Ze
    try clear Zf
    try clear Zg
    try clear Zh
    try clear Zn
    try clear Zo
    try clear Zp
    try clear Zq
    try clear Zr
    try clear Zx
    try clear Zy
    try clear Zz
    try clear ZA
    try clear ZB
    try clear ZH
    try clear ZI
    try clear ZJ
    try clear ZK
    try clear ZL
    try clear ZR
    try clear ZS
    try clear ZT
    try clear ZU
    try clear ZV
    try clear Z1
    try clear Z2
    try clear Z3
    try clear Z4
    try clear Z5
    try clear Vb
    try clear Vc
    try clear Vd
    try clear Vh
    try clear Vi
    try clear Vj
    try clear Vn
    try clear Vo
    try clear Vp
    try clear YU
    try clear YV
    try clear YW
    try clear YI
    try clear YJ
    try clear YK
    try clear YC
    try clear YD
    try clear YE
    try clear Y3
    try clear Y4
    try clear Y5
    try clear Zi
    try clear Zj
    try clear Zk
    try clear Zl
    try clear Zm
    try clear Zs
    try clear Zt
    try clear Zu
    try clear Zv
    try clear Zw
    try clear ZC
    try clear ZD
    try clear ZE
    try clear ZF
    try clear ZG
    try clear ZM
    try clear ZN
    try clear ZO
    try clear ZP
    try clear ZQ
    try clear ZW
    try clear ZX
    try clear ZY
    try clear ZZ
    try clear Z0
    try clear Z6
    try clear Z7
    try clear Z8
    try clear Z9
    try clear Va
    try clear Ve
    try clear Vf
    try clear Vg
    try clear Vk
    try clear Vl
    try clear Vm
    try clear Vq
    try clear Vr
    try clear Vs
    try clear YX
    try clear YY
    try clear YZ
    try clear XX
    try clear X9
    try clear Ya
    try clear Yb
    try clear Yc
    try clear p133
    try clear p2
    try clear q133
    obtain ⟨Xa, Xr, Xd, Xs, Xq, u138001, u138002, rfl, HA, HK3, Xh, Xg, Xb, Xe, Xf, HB⟩ := hrel
    cases gk with
    | zero => exact absurd HA.out (by simp [section_Cut.l1])
    | succ k3 =>
     have H := HA.out
     clear HA
     simp only [section_Cut.l1] at H
     by_cases T4 : Xa < (l1.length : Int)
     case neg =>
      rw [if_neg T4] at H
      have TV : decide (Xa < (l1.length : Int)) = false := decide_eq_false T4
      clear T4
      replace H := Option.bind_eq_some_iff.mp H
      obtain ⟨Y6, TW, H⟩ := H
      replace H : (if Y6 = 0 then (some (a0_0, Xs, Xq, 0)) else (some (Xd, Xs, Xq, 0))) = some (r1, r2, r3, r4) := H
      have Qm := Aside0.mk TW
      clear TW
      by_cases Y7 : Y6 = 0
      case neg =>
       rw [if_neg Y7] at H
       have T5 : (Y6 == 0) = false := beq_eq_false_iff_ne.mpr Y7
       have T6 : (Y6 != 0) = true := bne_iff_ne.mpr Y7
       simp only [Option.some.injEq, Prod.mk.injEq] at H
       obtain ⟨rfl, rfl, rfl, rfl⟩ := H
       have D8 := XK.out
       have D9 := XL.out
       have Ga := XB.out
       have Gb := XU.out
       have Qn : wr.cell? ⟨Xk, 0, none⟩ = some (.int .i64 a0_0) := (blk_cell Xb.out 0).trans rfl
       have Qo : wr.cell? ⟨Xk, 1, none⟩ = some (.slice XJ Xp.length XG) := (blk_cell Xb.out 1).trans rfl
       have Qp : wr.cell? ⟨Xk, 2, none⟩ = some (.slice XI Xm.length XH) := (blk_cell Xb.out 2).trans rfl
       have Qq := blk_frozen Xb.out 0
       have Qr := blk_frozen Xb.out 1
       have Qs := blk_frozen Xb.out 2
       go_wp2_with (first | ((with_reducible refine gate_callee (f := 46) rfl ?_); refine goesL_ (some 162) rfl rfl Try.func46 (by kernel_rfl) rfl #[.slice XJ Xp.length XG] rfl (by (try simp only [List.map_toArray, List.map_cons, List.map_nil]); first | done | rfl | (simp only [List.length_drop, List.length_take]; rfl)) ?_; (with_reducible refine (section_size.calls k3 _ _ Xp Y6 _ ?side1 ?side2 Qm.out).mono ?_); (case side1 => repeat (first | exact (Kd.C_below Yx.out HB.out) | (with_reducible refine Kd.C_alloc ?_ _) | (with_reducible refine Kd.C_drewN ?_ _) | (with_reducible refine Kd.C_drew ?_))); (case side2 => exact Zb.out); rintro e w' ⟨rfl, ⟨nd, rfl⟩⟩; refine ⟨_, rfl, ?_⟩; (try (rw [drewN_self wr]; generalize hq_ : World.drewN wr _ = wr; have X3 : Aside0 (Kd.R (Kd.int .i64) 3 wr w.heap.size (fun k_ => some k_ ≠ (u138002 : Value).ownBlock) u138001 Xs) := ⟨by rw [← hq_]; exact (by exact upR Xh.out)⟩; have X4 : Aside0 (Kd.R (Kd.int .i64) 3 wr w.heap.size (fun k_ => some k_ ≠ (u138001 : Value).ownBlock) u138002 Xq) := ⟨by rw [← hq_]; exact (by exact upR Xg.out)⟩; have X5 : Aside0 (wr.heap[Xk]? = some (.cells #[.int .i64 a0_0, .slice XJ Xp.length XG, .slice XI Xm.length XH] 31 (0, 0))) := ⟨by rw [← hq_]; exact (by exact upB Xb.out)⟩; have X6 : Aside0 (wr.heap[Xl]? = some (.cells #[.int .i64 Xr, .slice none 0 0, .slice none 0 0] 31 (0, 0))) := ⟨by rw [← hq_]; exact (by exact upB Xe.out)⟩; have Yf : Aside0 (wr.heap[Xn]? = some (.cells #[.int .i64 Xd, u138001, u138002] 31 (0, 0))) := ⟨by rw [← hq_]; exact (by exact upB Xf.out)⟩; have Yg : Aside0 (Below w.heap.size w wr) := ⟨by rw [← hq_]; exact (by repeat (first | (with_reducible first | exact HB.out | apply upS | refine below_set ?_ Xv.out | refine below_set ?_ Xw.out | refine below_set ?_ XN.out) | exact HB.out))⟩; clear Xh Xg Xb Xe Xf HB hq_; have Xh := X3; have Xg := X4; have Xb := X5; have Xe := X6; have Xf := Yf; have HB := Yg; clear X3 X4 X5 X6 Yf Yg)); have Qe : wr.cell? ⟨Xk, 0, none⟩ = some (.int .i64 a0_0) := (blk_cell Xb.out 0).trans rfl; have Qf : wr.cell? ⟨Xk, 1, none⟩ = some (.slice XJ Xp.length XG) := (blk_cell Xb.out 1).trans rfl; have Qg : wr.cell? ⟨Xk, 2, none⟩ = some (.slice XI Xm.length XH) := (blk_cell Xb.out 2).trans rfl; have Gc := XV.out; have Gd := Xy.out; have Qt : wr.cell? ⟨Xn, 0, none⟩ = some (.int .i64 Xd) := (blk_cell Xf.out 0).trans rfl; have Qu : wr.cell? ⟨Xn, 1, none⟩ = some (u138001) := (blk_cell Xf.out 1).trans rfl; have Qv : wr.cell? ⟨Xn, 2, none⟩ = some (u138002) := (blk_cell Xf.out 2).trans rfl; have Qw := blk_frozen Xf.out 0; have Qx := blk_frozen Xf.out 1; have Qy := blk_frozen Xf.out 2; have Qz : wr.cell? ⟨Xl, 0, none⟩ = some (.int .i64 Xr) := (blk_cell Xe.out 0).trans rfl; have QA : wr.cell? ⟨Xl, 1, none⟩ = some (.slice none 0 0) := (blk_cell Xe.out 1).trans rfl; have QB : wr.cell? ⟨Xl, 2, none⟩ = some (.slice none 0 0) := (blk_cell Xe.out 2).trans rfl; have QC := blk_frozen Xe.out 0; have QD := blk_frozen Xe.out 1; have QE := blk_frozen Xe.out 2; obtain ⟨Vt, Vu, eo179⟩ := Kd.R_slice Xh.out; subst eo179; obtain ⟨VC, VD, eo180⟩ := Kd.R_slice Xg.out; subst eo180))
       refine bodyPost_ret (results_ct rfl _ _ Xl 31 #[.int .i64 Xd, .slice Vt Xs.length Vu, .slice VC Xq.length VD] (0, 0) _ rfl (by (with_reducible repeat apply upF); refine blk_put (cs := #[.int .i64 Xd, .slice Vt Xs.length Vu, .slice none 0 0]) ?_ 2 _ rfl; (with_reducible repeat apply upF); refine blk_put (cs := #[.int .i64 Xd, .slice none 0 0, .slice none 0 0]) ?_ 1 _ rfl; (with_reducible repeat apply upF); refine blk_put (cs := #[.int .i64 Xr, .slice none 0 0, .slice none 0 0]) ?_ 0 _ rfl; exact upB Xe.out) Try.underlying31 rfl (by kernel_rfl)) rfl ?_
       exact ⟨_, _, by first | (simp only [Array.getD_eq_getD_getElem?, List.getElem?_toArray, List.getElem?_cons_succ, List.getElem?_cons_zero, Option.getD_some] <;> rfl) | rfl | (simp [errW_none, errW_some] <;> rfl) | (simp [*, errW_none, errW_some] <;> rfl), by (with_reducible repeat apply upG); exact Kd.R_mono (Kd.R_far (p := ⟨Xl, 2, none⟩) (Kd.R_far (p := ⟨Xl, 1, none⟩) (Kd.R_far (p := ⟨Xl, 0, none⟩) (Kd.R_types Xh.out Xe.out (by decide)) (fun _ hk => hk.2) (.int .i64 Xd)) (fun _ hk => hk.2) (.slice Vt Xs.length Vu)) (fun _ hk => hk.2) (.slice VC Xq.length VD)) (fun _ hk => hk.1), by (with_reducible repeat apply upG); exact Kd.R_mono (Kd.R_far (p := ⟨Xl, 2, none⟩) (Kd.R_far (p := ⟨Xl, 1, none⟩) (Kd.R_far (p := ⟨Xl, 0, none⟩) (Kd.R_types Xg.out Xe.out (by decide)) (fun _ hk => hk.2) (.int .i64 Xd)) (fun _ hk => hk.2) (.slice Vt Xs.length Vu)) (fun _ hk => hk.2) (.slice VC Xq.length VD)) (fun _ hk => hk.1), by repeat (first | (with_reducible first | exact HB.out | apply upS | refine below_set ?_ Xv.out | refine below_set ?_ Xw.out | refine below_set ?_ XN.out) | exact HB.out)⟩
      rw [if_pos Y7] at H
      have T5 : (Y6 == 0) = true := beq_iff_eq.mpr Y7
      have T6 : (Y6 != 0) = false := bne_eq_false_iff_eq.mpr Y7
      clear Y7
      simp only [Option.some.injEq, Prod.mk.injEq] at H
      obtain ⟨rfl, rfl, rfl, rfl⟩ := H
      have Ge := XK.out
      have Gf := XL.out
      have Gg := XB.out
      have Gh := XU.out
      have QF : wr.cell? ⟨Xk, 0, none⟩ = some (.int .i64 a0_0) := (blk_cell Xb.out 0).trans rfl
      have QG : wr.cell? ⟨Xk, 1, none⟩ = some (.slice XJ Xp.length XG) := (blk_cell Xb.out 1).trans rfl
      have QH : wr.cell? ⟨Xk, 2, none⟩ = some (.slice XI Xm.length XH) := (blk_cell Xb.out 2).trans rfl
      have QI := blk_frozen Xb.out 0
      have QJ := blk_frozen Xb.out 1
      have QK := blk_frozen Xb.out 2
      go_wp2_with (first | ((with_reducible refine gate_callee (f := 46) rfl ?_); refine goesL_ (some 162) rfl rfl Try.func46 (by kernel_rfl) rfl #[.slice XJ Xp.length XG] rfl (by (try simp only [List.map_toArray, List.map_cons, List.map_nil]); first | done | rfl | (simp only [List.length_drop, List.length_take]; rfl)) ?_; (with_reducible refine (section_size.calls k3 _ _ Xp Y6 _ ?side1 ?side2 Qm.out).mono ?_); (case side1 => repeat (first | exact (Kd.C_below Yx.out HB.out) | (with_reducible refine Kd.C_alloc ?_ _) | (with_reducible refine Kd.C_drewN ?_ _) | (with_reducible refine Kd.C_drew ?_))); (case side2 => exact Zb.out); rintro e w' ⟨rfl, ⟨nd, rfl⟩⟩; refine ⟨_, rfl, ?_⟩; (try (rw [drewN_self wr]; generalize hq_ : World.drewN wr _ = wr; have X3 : Aside0 (Kd.R (Kd.int .i64) 3 wr w.heap.size (fun k_ => some k_ ≠ (u138002 : Value).ownBlock) u138001 Xs) := ⟨by rw [← hq_]; exact (by exact upR Xh.out)⟩; have X4 : Aside0 (Kd.R (Kd.int .i64) 3 wr w.heap.size (fun k_ => some k_ ≠ (u138001 : Value).ownBlock) u138002 Xq) := ⟨by rw [← hq_]; exact (by exact upR Xg.out)⟩; have X5 : Aside0 (wr.heap[Xk]? = some (.cells #[.int .i64 a0_0, .slice XJ Xp.length XG, .slice XI Xm.length XH] 31 (0, 0))) := ⟨by rw [← hq_]; exact (by exact upB Xb.out)⟩; have X6 : Aside0 (wr.heap[Xl]? = some (.cells #[.int .i64 Xr, .slice none 0 0, .slice none 0 0] 31 (0, 0))) := ⟨by rw [← hq_]; exact (by exact upB Xe.out)⟩; have Yf : Aside0 (wr.heap[Xn]? = some (.cells #[.int .i64 Xd, u138001, u138002] 31 (0, 0))) := ⟨by rw [← hq_]; exact (by exact upB Xf.out)⟩; have Yg : Aside0 (Below w.heap.size w wr) := ⟨by rw [← hq_]; exact (by repeat (first | (with_reducible first | exact HB.out | apply upS | refine below_set ?_ Xv.out | refine below_set ?_ Xw.out | refine below_set ?_ XN.out) | exact HB.out))⟩; clear Xh Xg Xb Xe Xf HB hq_; have Xh := X3; have Xg := X4; have Xb := X5; have Xe := X6; have Xf := Yf; have HB := Yg; clear X3 X4 X5 X6 Yf Yg)); have Qh : wr.cell? ⟨Xk, 0, none⟩ = some (.int .i64 a0_0) := (blk_cell Xb.out 0).trans rfl; have Qi : wr.cell? ⟨Xk, 1, none⟩ = some (.slice XJ Xp.length XG) := (blk_cell Xb.out 1).trans rfl; have Qj : wr.cell? ⟨Xk, 2, none⟩ = some (.slice XI Xm.length XH) := (blk_cell Xb.out 2).trans rfl; have Gi := XV.out; have Gj := Xy.out; have QL : wr.cell? ⟨Xn, 0, none⟩ = some (.int .i64 Xd) := (blk_cell Xf.out 0).trans rfl; have QM : wr.cell? ⟨Xn, 1, none⟩ = some (u138001) := (blk_cell Xf.out 1).trans rfl; have QN : wr.cell? ⟨Xn, 2, none⟩ = some (u138002) := (blk_cell Xf.out 2).trans rfl; have QO := blk_frozen Xf.out 0; have QP := blk_frozen Xf.out 1; have QQ := blk_frozen Xf.out 2; have QR : wr.cell? ⟨Xl, 0, none⟩ = some (.int .i64 Xr) := (blk_cell Xe.out 0).trans rfl; have QS : wr.cell? ⟨Xl, 1, none⟩ = some (.slice none 0 0) := (blk_cell Xe.out 1).trans rfl; have QT : wr.cell? ⟨Xl, 2, none⟩ = some (.slice none 0 0) := (blk_cell Xe.out 2).trans rfl; have QU := blk_frozen Xe.out 0; have QV := blk_frozen Xe.out 1; have QW := blk_frozen Xe.out 2; obtain ⟨Vv, Vw, eo171⟩ := Kd.R_slice Xh.out; subst eo171; obtain ⟨VE, VF, eo172⟩ := Kd.R_slice Xg.out; subst eo172))
      refine bodyPost_ret (results_ct rfl _ _ Xl 31 #[.int .i64 a0_0, .slice Vv Xs.length Vw, .slice VE Xq.length VF] (0, 0) _ rfl (by (with_reducible repeat apply upF); refine blk_put (cs := #[.int .i64 a0_0, .slice Vv Xs.length Vw, .slice none 0 0]) ?_ 2 _ rfl; (with_reducible repeat apply upF); refine blk_put (cs := #[.int .i64 a0_0, .slice none 0 0, .slice none 0 0]) ?_ 1 _ rfl; (with_reducible repeat apply upF); refine blk_put (cs := #[.int .i64 Xr, .slice none 0 0, .slice none 0 0]) ?_ 0 _ rfl; (with_reducible repeat apply upF); refine blk_far ?_ Xy.out _; exact upB Xe.out) Try.underlying31 rfl (by kernel_rfl)) rfl ?_
      exact ⟨_, _, by first | (simp only [Array.getD_eq_getD_getElem?, List.getElem?_toArray, List.getElem?_cons_succ, List.getElem?_cons_zero, Option.getD_some] <;> rfl) | rfl | (simp [errW_none, errW_some] <;> rfl) | (simp [*, errW_none, errW_some] <;> rfl), by (with_reducible repeat apply upG); exact Kd.R_mono (Kd.R_far (p := ⟨Xl, 2, none⟩) (Kd.R_far (p := ⟨Xl, 1, none⟩) (Kd.R_far (p := ⟨Xl, 0, none⟩) (Kd.R_far (p := ⟨Xn, 0, none⟩) (Kd.R_types (Kd.R_types Xh.out Xf.out (by decide)) Xe.out (by decide)) (fun _ hk => hk.1.2) (.int .i64 a0_0)) (fun _ hk => hk.2) (.int .i64 a0_0)) (fun _ hk => hk.2) (.slice Vv Xs.length Vw)) (fun _ hk => hk.2) (.slice VE Xq.length VF)) (fun _ hk => hk.1.1), by (with_reducible repeat apply upG); exact Kd.R_mono (Kd.R_far (p := ⟨Xl, 2, none⟩) (Kd.R_far (p := ⟨Xl, 1, none⟩) (Kd.R_far (p := ⟨Xl, 0, none⟩) (Kd.R_far (p := ⟨Xn, 0, none⟩) (Kd.R_types (Kd.R_types Xg.out Xf.out (by decide)) Xe.out (by decide)) (fun _ hk => hk.1.2) (.int .i64 a0_0)) (fun _ hk => hk.2) (.int .i64 a0_0)) (fun _ hk => hk.2) (.slice Vv Xs.length Vw)) (fun _ hk => hk.2) (.slice VE Xq.length VF)) (fun _ hk => hk.1.1), by repeat (first | (with_reducible first | exact HB.out | apply upS | refine below_set ?_ Xv.out | refine below_set ?_ Xw.out | refine below_set ?_ XN.out) | exact HB.out)⟩
     rw [if_pos T4] at H
     have TV : decide (Xa < (l1.length : Int)) = true := decide_eq_true T4
     clear T4
     by_cases QX : 0 ≤ Xa
     case neg =>
      rw [if_neg QX] at H
      exact absurd H (by simp)
     rw [if_pos QX] at H
     have QY : decide (0 ≤ Xa) = true := decide_eq_true QX
     clear QX
     by_cases QZ : Xa < (l1.length : Int)
     case neg =>
      rw [if_neg QZ] at H
      exact absurd H (by simp)
     rw [if_pos QZ] at H
     have Q0 : decide (Xa < (l1.length : Int)) = true := decide_eq_true QZ
     clear QZ
     by_cases Q1 : Xa < (Xp.length : Int)
     case neg =>
      rw [if_neg Q1] at H
      exact absurd H (by simp)
     rw [if_pos Q1] at H
     have Q2 : decide (Xa < (Xp.length : Int)) = true := decide_eq_true Q1
     clear Q1
     obtain ⟨bq55, hbq55⟩ : ∃ b_ : Bool, b_ = ((rd_T58 l1 Xa).f0) := ⟨_, rfl⟩
     replace H : (if bq55 = true then (if ((rd_T58 l1 Xa).f1) < 0 then (some (0, ([] : List Int), ([] : List Int), 92)) else (if ((rd_T58 l1 Xa).f1) > (wrap64 ((rd Xp Xa) - 1)) then (some (0, ([] : List Int), ([] : List Int), 92)) else (if Xa < (Xm.length : Int) then (section_Cut.l1 k3 l1 (l1.length : Int) (wrap64 (Xa + 1)) a0_0 Xp Xm (wrap64 (Xd + (wrap64 (((rd_T58 l1 Xa).f1) * (rd Xm Xa))))) Xs Xq) else (none)))) else ((section_Count.f ((rd_T58 l1 Xa).f2.f0) ((rd_T58 l1 Xa).f2.f1) ((rd_T58 l1 Xa).f2.f2)).bind fun Yo => (if Yo.1 > 0 then (if (mn ((rd_T58 l1 Xa).f2.f0) (wrap64 (((rd_T58 l1 Xa).f2.f0) + (wrap64 ((wrap64 (Yo.1 - 1)) * ((rd_T58 l1 Xa).f2.f2)))))) < 0 then (some (0, ([] : List Int), ([] : List Int), 92)) else (if (mx ((rd_T58 l1 Xa).f2.f0) (wrap64 (((rd_T58 l1 Xa).f2.f0) + (wrap64 ((wrap64 (Yo.1 - 1)) * ((rd_T58 l1 Xa).f2.f2)))))) > (wrap64 ((rd Xp Xa) - 1)) then (some (0, ([] : List Int), ([] : List Int), 92)) else (section_Cut.j3 k3 Xa Yo.1 ((rd_T58 l1 Xa).f2.f0) l1 (l1.length : Int) Xa a0_0 Xp Xm Xd Xs Xq bq55 ((rd_T58 l1 Xa).f1) ((rd_T58 l1 Xa).f2.f0) ((rd_T58 l1 Xa).f2.f1) ((rd_T58 l1 Xa).f2.f2)))) else (section_Cut.j3 k3 Xa Yo.1 0 l1 (l1.length : Int) Xa a0_0 Xp Xm Xd Xs Xq bq55 ((rd_T58 l1 Xa).f1) ((rd_T58 l1 Xa).f2.f0) ((rd_T58 l1 Xa).f2.f1) ((rd_T58 l1 Xa).f2.f2))))) = some (r1, r2, r3, r4) := by rw [← hbq55] at H; exact H
     have Nbq55 := Aside0.mk hbq55
     clear hbq55
     by_cases Q3 : bq55 = true
     case pos =>
      subst Q3
      have H1 : (if ((rd_T58 l1 Xa).f1) < 0 then (some (0, ([] : List Int), ([] : List Int), 92)) else (if ((rd_T58 l1 Xa).f1) > (wrap64 ((rd Xp Xa) - 1)) then (some (0, ([] : List Int), ([] : List Int), 92)) else (if Xa < (Xm.length : Int) then (section_Cut.l1 k3 l1 (l1.length : Int) (wrap64 (Xa + 1)) a0_0 Xp Xm (wrap64 (Xd + (wrap64 (((rd_T58 l1 Xa).f1) * (rd Xm Xa))))) Xs Xq) else (none)))) = some (r1, r2, r3, r4) := by rw [if_pos rfl] at H; exact H
      clear H
      have H := H1
      clear H1
      by_cases T7 : ((rd_T58 l1 Xa).f1) < 0
      case pos =>
       rw [if_pos T7] at H
       have TX : decide (((rd_T58 l1 Xa).f1) < 0) = true := decide_eq_true T7
       clear T7
       simp only [Option.some.injEq, Prod.mk.injEq] at H
       obtain ⟨rfl, rfl, rfl, rfl⟩ := H
       have p138 : 0 ≤ (Xa : Int) := of_decide_eq_true (by first | (with_reducible assumption) | assumption)
       have q138 : Xa < (l1.length : Int) := of_decide_eq_true (by first | (with_reducible assumption) | assumption)
       obtain ⟨ad138, e138, XO, XY, XZ, X0, X1⟩ := at_T58 T1.out Xa p138 q138
       (try rw [← Nbq55.out] at XO)
       cases e138
       replace XO := (HB.out.cell (World.block_lt_of_cell? w _ XO)).trans XO
       replace XY := (HB.out.cell (World.block_lt_of_cell? w _ XY)).trans XY
       replace XZ := (HB.out.cell (World.block_lt_of_cell? w _ XZ)).trans XZ
       replace X0 := (HB.out.cell (World.block_lt_of_cell? w _ X0)).trans X0
       replace X1 := (HB.out.cell (World.block_lt_of_cell? w _ X1)).trans X1
       replace p138 := eq_true p138
       replace q138 := eq_true q138
       go_wp2_with (first | ((with_reducible refine gate_dst (N := 12) rfl ?_); (try (refine gate_guard (by rfl) ?_; dsimp only)); refine box_event ?hg (N := 12) ?hd (cs := #[.bool false, .int .i64 0, .int .i64 0, .int .i64 0, .int .i64 0]) (t := 58) ?hr ?_; (case hd => rfl); (case hg => rfl); (case hr => first | (go_simp; done) | (go_simp; rfl)); intro Xc hg w58 hbox hb; have X3 := Aside0.mk (Kd.R_below (by exact upR Xh.out) hb); have X4 := Aside0.mk (Kd.R_below (by exact upR Xg.out) hb); have X5 := Aside0.mk (blk_below (g := Xk) (o := .cells #[.int .i64 a0_0, .slice XJ Xp.length XG, .slice XI Xm.length XH] 31 (0, 0)) (by exact upB Xb.out) hb); have X6 := Aside0.mk (blk_below (g := Xl) (o := .cells #[.int .i64 Xr, .slice none 0 0, .slice none 0 0] 31 (0, 0)) (by exact upB Xe.out) hb); have Yf := Aside0.mk (blk_below (g := Xn) (o := .cells #[.int .i64 Xd, u138001, u138002] 31 (0, 0)) (by exact upB Xf.out) hb); have Yg := Aside0.mk (below_step (by repeat (first | (with_reducible first | exact HB.out | apply upS | refine below_set ?_ Xv.out | refine below_set ?_ Xw.out | refine below_set ?_ XN.out) | exact HB.out)) hb); have Yi := Aside0.mk (hbox); have YM := Aside0.mk ((by rw [hg]; exact (below_size (by repeat (first | (with_reducible first | exact HB.out | apply upS | refine below_set ?_ Xv.out | refine below_set ?_ Xw.out | refine below_set ?_ XN.out) | exact HB.out))) : w.heap.size ≤ Xc)); have YN := Aside0.mk ((by rw [hg]; exact (below_size (by repeat (first | (with_reducible first | exact HB.out | apply upS | refine below_set ?_ Xv.out | refine below_set ?_ Xw.out | refine below_set ?_ XN.out) | exact HB.out))) : w.heap.size ≤ Xc)); have YO := Aside0.mk ((by rw [hg]; exact Nat.ne_of_lt (blk_lt (g := Xk) (o := .cells #[.int .i64 a0_0, .slice XJ Xp.length XG, .slice XI Xm.length XH] 31 (0, 0)) (by exact upB Xb.out)) : Xk ≠ Xc)); have YP := Aside0.mk ((by rw [hg]; exact Nat.ne_of_gt (blk_lt (g := Xk) (o := .cells #[.int .i64 a0_0, .slice XJ Xp.length XG, .slice XI Xm.length XH] 31 (0, 0)) (by exact upB Xb.out)) : Xc ≠ Xk)); have YQ := Aside0.mk ((by rw [hg]; exact Nat.ne_of_lt (blk_lt (g := Xl) (o := .cells #[.int .i64 Xr, .slice none 0 0, .slice none 0 0] 31 (0, 0)) (by exact upB Xe.out)) : Xl ≠ Xc)); have YR := Aside0.mk ((by rw [hg]; exact Nat.ne_of_gt (blk_lt (g := Xl) (o := .cells #[.int .i64 Xr, .slice none 0 0, .slice none 0 0] 31 (0, 0)) (by exact upB Xe.out)) : Xc ≠ Xl)); have YS := Aside0.mk ((by rw [hg]; exact Nat.ne_of_lt (blk_lt (g := Xn) (o := .cells #[.int .i64 Xd, u138001, u138002] 31 (0, 0)) (by exact upB Xf.out)) : Xn ≠ Xc)); have YT := Aside0.mk ((by rw [hg]; exact Nat.ne_of_gt (blk_lt (g := Xn) (o := .cells #[.int .i64 Xd, u138001, u138002] 31 (0, 0)) (by exact upB Xf.out)) : Xc ≠ Xn)); clear Xh; clear Xg; clear Xb; clear Xe; clear Xf; clear HB; have Xh := X3; have Xg := X4; have Xb := X5; have Xe := X6; have Xf := Yf; have HB := Yg; have Xi := Yi; have X7 := YM; have Ye := YN; have XC := YO; have XW := YP; have Xt := YQ; have X2 := YR; have Xx := YS; have XF := YT; clear X3 X4 X5 X6 Yf Yg Yi YM YN YO YP YQ YR YS YT; clear hb hbox hg; have JC := XW.out; have JD := XC.out; have JE := X2.out; have JF := Xt.out; have JG := XF.out; have JH := Xx.out; have UC : w58.cell? ⟨Xc, 0, none⟩ = some (.bool false) := (blk_cell Xi.out 0).trans rfl; have UD : w58.cell? ⟨Xc, 1, none⟩ = some (.int .i64 0) := (blk_cell Xi.out 1).trans rfl; have UE : w58.cell? ⟨Xc, 2, none⟩ = some (.int .i64 0) := (blk_cell Xi.out 2).trans rfl; have UF : w58.cell? ⟨Xc, 3, none⟩ = some (.int .i64 0) := (blk_cell Xi.out 3).trans rfl; have UG : w58.cell? ⟨Xc, 4, none⟩ = some (.int .i64 0) := (blk_cell Xi.out 4).trans rfl; have UH := blk_frozen Xi.out 0; have UI := blk_frozen Xi.out 1; have UJ := blk_frozen Xi.out 2; have UK := blk_frozen Xi.out 3; have UL := blk_frozen Xi.out 4; have JI := XK.out; have JJ := XL.out; have JK := XB.out; have JL := XU.out; have UM : w58.cell? ⟨Xk, 0, none⟩ = some (.int .i64 a0_0) := (blk_cell Xb.out 0).trans rfl; have UN : w58.cell? ⟨Xk, 1, none⟩ = some (.slice XJ Xp.length XG) := (blk_cell Xb.out 1).trans rfl; have UO : w58.cell? ⟨Xk, 2, none⟩ = some (.slice XI Xm.length XH) := (blk_cell Xb.out 2).trans rfl; have UP := blk_frozen Xb.out 0; have UQ := blk_frozen Xb.out 1; have UR := blk_frozen Xb.out 2; have p140 : 0 ≤ (Xa : Int) := of_decide_eq_true (by first | (with_reducible assumption) | assumption); have q140 : Xa < (Xp.length : Int) := of_decide_eq_true (by first | (with_reducible assumption) | assumption); obtain ⟨ad140, e140, Xj⟩ := Kd.at_int Yx.out Xa p140 q140; cases e140; have XP : ad140.block ≠ Xc := Nat.ne_of_lt (Nat.lt_of_lt_of_le (by have := World.block_lt_of_cell? _ _ Xj; first | rwa [add_block] at this | exact this) X7.out); have XQ : ad140.block ≠ Xc := Nat.ne_of_lt (Nat.lt_of_lt_of_le (by have := World.block_lt_of_cell? _ _ Xj; first | rwa [add_block] at this | exact this) X7.out); have XR : ad140.block ≠ Xc := Nat.ne_of_lt (Nat.lt_of_lt_of_le (by have := World.block_lt_of_cell? _ _ Xj; first | rwa [add_block] at this | exact this) X7.out); have XS : ad140.block ≠ Xc := Nat.ne_of_lt (Nat.lt_of_lt_of_le (by have := World.block_lt_of_cell? _ _ Xj; first | rwa [add_block] at this | exact this) X7.out); have XT : ad140.block ≠ Xc := Nat.ne_of_lt (Nat.lt_of_lt_of_le (by have := World.block_lt_of_cell? _ _ Xj; first | rwa [add_block] at this | exact this) X7.out); replace Xj := (HB.out.cell (World.block_lt_of_cell? w _ Xj)).trans Xj; replace Xj := (cell_far (p := ⟨Xc, 0, none⟩) (by first | (rw [add_block]; exact XP) | (show (Addr.add _ _).block ≠ _; rw [add_block]; exact XP) | exact XP) (.bool true)).trans Xj; replace Xj := (cell_far (p := ⟨Xc, 1, none⟩) (by first | (rw [add_block]; exact XQ) | (show (Addr.add _ _).block ≠ _; rw [add_block]; exact XQ) | exact XQ) (.int .i64 ((rd_T58 l1 Xa).f1))).trans Xj; replace Xj := (cell_far (p := ⟨Xc, 2, none⟩) (by first | (rw [add_block]; exact XR) | (show (Addr.add _ _).block ≠ _; rw [add_block]; exact XR) | exact XR) (.int .i64 ((rd_T58 l1 Xa).f2.f0))).trans Xj; replace Xj := (cell_far (p := ⟨Xc, 3, none⟩) (by first | (rw [add_block]; exact XS) | (show (Addr.add _ _).block ≠ _; rw [add_block]; exact XS) | exact XS) (.int .i64 ((rd_T58 l1 Xa).f2.f1))).trans Xj; replace Xj := (cell_far (p := ⟨Xc, 4, none⟩) (by first | (rw [add_block]; exact XT) | (show (Addr.add _ _).block ≠ _; rw [add_block]; exact XT) | exact XT) (.int .i64 ((rd_T58 l1 Xa).f2.f2))).trans Xj; clear XP; clear XQ; clear XR; clear XS; clear XT; replace p140 := eq_true p140; replace q140 := eq_true q140; have JM := Xy.out; have JN := XV.out; have US : w58.cell? ⟨Xl, 0, none⟩ = some (.int .i64 Xr) := (blk_cell Xe.out 0).trans rfl; have UT : w58.cell? ⟨Xl, 1, none⟩ = some (.slice none 0 0) := (blk_cell Xe.out 1).trans rfl; have UU : w58.cell? ⟨Xl, 2, none⟩ = some (.slice none 0 0) := (blk_cell Xe.out 2).trans rfl; have UV := blk_frozen Xe.out 0; have UW := blk_frozen Xe.out 1; have UX := blk_frozen Xe.out 2))
       refine bodyPost_ret (results_ct rfl _ _ Xl 31 #[.int .i64 0, .slice none 0 0, .slice none 0 0] (0, 0) _ rfl (by (with_reducible repeat apply upF); refine blk_put (cs := #[.int .i64 0, .slice none 0 0, .slice none 0 0]) ?_ 2 _ rfl; (with_reducible repeat apply upF); refine blk_put (cs := #[.int .i64 0, .slice none 0 0, .slice none 0 0]) ?_ 1 _ rfl; (with_reducible repeat apply upF); refine blk_put (cs := #[.int .i64 Xr, .slice none 0 0, .slice none 0 0]) ?_ 0 _ rfl; (with_reducible repeat apply upF); refine blk_far ?_ Xt.out _; (with_reducible repeat apply upF); refine blk_far ?_ Xt.out _; (with_reducible repeat apply upF); refine blk_far ?_ Xt.out _; (with_reducible repeat apply upF); refine blk_far ?_ Xt.out _; (with_reducible repeat apply upF); refine blk_far ?_ Xt.out _; exact upB Xe.out) Try.underlying31 rfl (by kernel_rfl)) rfl ?_
       exact ⟨_, _, by first | (simp only [Array.getD_eq_getD_getElem?, List.getElem?_toArray, List.getElem?_cons_succ, List.getElem?_cons_zero, Option.getD_some] <;> rfl) | rfl | (simp [errW_none, errW_some] <;> rfl) | (simp [*, errW_none, errW_some] <;> rfl), by first | exact Kd.R_nil _ _ _ _ _ | exact Kd.N_nil _ _ _ _ _ | exact Kd.V_nil _ _ _ _ _ | exact Kd.Q_nil _ _ _ _ _ | exact Kd.S_nil _ _ _ _ _, by first | exact Kd.R_nil _ _ _ _ _ | exact Kd.N_nil _ _ _ _ _ | exact Kd.V_nil _ _ _ _ _ | exact Kd.Q_nil _ _ _ _ _ | exact Kd.S_nil _ _ _ _ _, by repeat (first | (with_reducible first | exact HB.out | apply upS | refine below_set ?_ Xv.out | refine below_set ?_ Xw.out | refine below_set ?_ XN.out | refine below_set ?_ Ye.out) | exact HB.out)⟩
      rw [if_neg T7] at H
      have TX : decide (((rd_T58 l1 Xa).f1) < 0) = false := decide_eq_false T7
      clear T7
      by_cases T8 : ((rd_T58 l1 Xa).f1) > (wrap64 ((rd Xp Xa) - 1))
      case pos =>
       rw [if_pos T8] at H
       have TY : decide ((wrap64 ((rd Xp Xa) - 1)) < ((rd_T58 l1 Xa).f1)) = true := decide_eq_true T8
       clear T8
       simp only [Option.some.injEq, Prod.mk.injEq] at H
       obtain ⟨rfl, rfl, rfl, rfl⟩ := H
       have p138 : 0 ≤ (Xa : Int) := of_decide_eq_true (by first | (with_reducible assumption) | assumption)
       have q138 : Xa < (l1.length : Int) := of_decide_eq_true (by first | (with_reducible assumption) | assumption)
       obtain ⟨ad138, e138, XO, XY, XZ, X0, X1⟩ := at_T58 T1.out Xa p138 q138
       (try rw [← Nbq55.out] at XO)
       cases e138
       replace XO := (HB.out.cell (World.block_lt_of_cell? w _ XO)).trans XO
       replace XY := (HB.out.cell (World.block_lt_of_cell? w _ XY)).trans XY
       replace XZ := (HB.out.cell (World.block_lt_of_cell? w _ XZ)).trans XZ
       replace X0 := (HB.out.cell (World.block_lt_of_cell? w _ X0)).trans X0
       replace X1 := (HB.out.cell (World.block_lt_of_cell? w _ X1)).trans X1
       replace p138 := eq_true p138
       replace q138 := eq_true q138
       go_wp2_with (first | ((with_reducible refine gate_dst (N := 12) rfl ?_); (try (refine gate_guard (by rfl) ?_; dsimp only)); refine box_event ?hg (N := 12) ?hd (cs := #[.bool false, .int .i64 0, .int .i64 0, .int .i64 0, .int .i64 0]) (t := 58) ?hr ?_; (case hd => rfl); (case hg => rfl); (case hr => first | (go_simp; done) | (go_simp; rfl)); intro Xc hg w69 hbox hb; have X3 := Aside0.mk (Kd.R_below (by exact upR Xh.out) hb); have X4 := Aside0.mk (Kd.R_below (by exact upR Xg.out) hb); have X5 := Aside0.mk (blk_below (g := Xk) (o := .cells #[.int .i64 a0_0, .slice XJ Xp.length XG, .slice XI Xm.length XH] 31 (0, 0)) (by exact upB Xb.out) hb); have X6 := Aside0.mk (blk_below (g := Xl) (o := .cells #[.int .i64 Xr, .slice none 0 0, .slice none 0 0] 31 (0, 0)) (by exact upB Xe.out) hb); have Yf := Aside0.mk (blk_below (g := Xn) (o := .cells #[.int .i64 Xd, u138001, u138002] 31 (0, 0)) (by exact upB Xf.out) hb); have Yg := Aside0.mk (below_step (by repeat (first | (with_reducible first | exact HB.out | apply upS | refine below_set ?_ Xv.out | refine below_set ?_ Xw.out | refine below_set ?_ XN.out) | exact HB.out)) hb); have Yi := Aside0.mk (hbox); have YM := Aside0.mk ((by rw [hg]; exact (below_size (by repeat (first | (with_reducible first | exact HB.out | apply upS | refine below_set ?_ Xv.out | refine below_set ?_ Xw.out | refine below_set ?_ XN.out) | exact HB.out))) : w.heap.size ≤ Xc)); have YN := Aside0.mk ((by rw [hg]; exact (below_size (by repeat (first | (with_reducible first | exact HB.out | apply upS | refine below_set ?_ Xv.out | refine below_set ?_ Xw.out | refine below_set ?_ XN.out) | exact HB.out))) : w.heap.size ≤ Xc)); have YO := Aside0.mk ((by rw [hg]; exact Nat.ne_of_lt (blk_lt (g := Xk) (o := .cells #[.int .i64 a0_0, .slice XJ Xp.length XG, .slice XI Xm.length XH] 31 (0, 0)) (by exact upB Xb.out)) : Xk ≠ Xc)); have YP := Aside0.mk ((by rw [hg]; exact Nat.ne_of_gt (blk_lt (g := Xk) (o := .cells #[.int .i64 a0_0, .slice XJ Xp.length XG, .slice XI Xm.length XH] 31 (0, 0)) (by exact upB Xb.out)) : Xc ≠ Xk)); have YQ := Aside0.mk ((by rw [hg]; exact Nat.ne_of_lt (blk_lt (g := Xl) (o := .cells #[.int .i64 Xr, .slice none 0 0, .slice none 0 0] 31 (0, 0)) (by exact upB Xe.out)) : Xl ≠ Xc)); have YR := Aside0.mk ((by rw [hg]; exact Nat.ne_of_gt (blk_lt (g := Xl) (o := .cells #[.int .i64 Xr, .slice none 0 0, .slice none 0 0] 31 (0, 0)) (by exact upB Xe.out)) : Xc ≠ Xl)); have YS := Aside0.mk ((by rw [hg]; exact Nat.ne_of_lt (blk_lt (g := Xn) (o := .cells #[.int .i64 Xd, u138001, u138002] 31 (0, 0)) (by exact upB Xf.out)) : Xn ≠ Xc)); have YT := Aside0.mk ((by rw [hg]; exact Nat.ne_of_gt (blk_lt (g := Xn) (o := .cells #[.int .i64 Xd, u138001, u138002] 31 (0, 0)) (by exact upB Xf.out)) : Xc ≠ Xn)); clear Xh; clear Xg; clear Xb; clear Xe; clear Xf; clear HB; have Xh := X3; have Xg := X4; have Xb := X5; have Xe := X6; have Xf := Yf; have HB := Yg; have Xi := Yi; have X7 := YM; have Ye := YN; have XC := YO; have XW := YP; have Xt := YQ; have X2 := YR; have Xx := YS; have XF := YT; clear X3 X4 X5 X6 Yf Yg Yi YM YN YO YP YQ YR YS YT; clear hb hbox hg; have JO := XW.out; have JP := XC.out; have JQ := X2.out; have JR := Xt.out; have JS := XF.out; have JT := Xx.out; have UY : w69.cell? ⟨Xc, 0, none⟩ = some (.bool false) := (blk_cell Xi.out 0).trans rfl; have UZ : w69.cell? ⟨Xc, 1, none⟩ = some (.int .i64 0) := (blk_cell Xi.out 1).trans rfl; have U0 : w69.cell? ⟨Xc, 2, none⟩ = some (.int .i64 0) := (blk_cell Xi.out 2).trans rfl; have U1 : w69.cell? ⟨Xc, 3, none⟩ = some (.int .i64 0) := (blk_cell Xi.out 3).trans rfl; have U2 : w69.cell? ⟨Xc, 4, none⟩ = some (.int .i64 0) := (blk_cell Xi.out 4).trans rfl; have U3 := blk_frozen Xi.out 0; have U4 := blk_frozen Xi.out 1; have U5 := blk_frozen Xi.out 2; have U6 := blk_frozen Xi.out 3; have U7 := blk_frozen Xi.out 4; have JU := XK.out; have JV := XL.out; have JW := XB.out; have JX := XU.out; have U8 : w69.cell? ⟨Xk, 0, none⟩ = some (.int .i64 a0_0) := (blk_cell Xb.out 0).trans rfl; have U9 : w69.cell? ⟨Xk, 1, none⟩ = some (.slice XJ Xp.length XG) := (blk_cell Xb.out 1).trans rfl; have Ta : w69.cell? ⟨Xk, 2, none⟩ = some (.slice XI Xm.length XH) := (blk_cell Xb.out 2).trans rfl; have Tb := blk_frozen Xb.out 0; have Tc := blk_frozen Xb.out 1; have Td := blk_frozen Xb.out 2; have p140 : 0 ≤ (Xa : Int) := of_decide_eq_true (by first | (with_reducible assumption) | assumption); have q140 : Xa < (Xp.length : Int) := of_decide_eq_true (by first | (with_reducible assumption) | assumption); obtain ⟨ad140, e140, Xj⟩ := Kd.at_int Yx.out Xa p140 q140; cases e140; have XP : ad140.block ≠ Xc := Nat.ne_of_lt (Nat.lt_of_lt_of_le (by have := World.block_lt_of_cell? _ _ Xj; first | rwa [add_block] at this | exact this) X7.out); have XQ : ad140.block ≠ Xc := Nat.ne_of_lt (Nat.lt_of_lt_of_le (by have := World.block_lt_of_cell? _ _ Xj; first | rwa [add_block] at this | exact this) X7.out); have XR : ad140.block ≠ Xc := Nat.ne_of_lt (Nat.lt_of_lt_of_le (by have := World.block_lt_of_cell? _ _ Xj; first | rwa [add_block] at this | exact this) X7.out); have XS : ad140.block ≠ Xc := Nat.ne_of_lt (Nat.lt_of_lt_of_le (by have := World.block_lt_of_cell? _ _ Xj; first | rwa [add_block] at this | exact this) X7.out); have XT : ad140.block ≠ Xc := Nat.ne_of_lt (Nat.lt_of_lt_of_le (by have := World.block_lt_of_cell? _ _ Xj; first | rwa [add_block] at this | exact this) X7.out); replace Xj := (HB.out.cell (World.block_lt_of_cell? w _ Xj)).trans Xj; replace Xj := (cell_far (p := ⟨Xc, 0, none⟩) (by first | (rw [add_block]; exact XP) | (show (Addr.add _ _).block ≠ _; rw [add_block]; exact XP) | exact XP) (.bool true)).trans Xj; replace Xj := (cell_far (p := ⟨Xc, 1, none⟩) (by first | (rw [add_block]; exact XQ) | (show (Addr.add _ _).block ≠ _; rw [add_block]; exact XQ) | exact XQ) (.int .i64 ((rd_T58 l1 Xa).f1))).trans Xj; replace Xj := (cell_far (p := ⟨Xc, 2, none⟩) (by first | (rw [add_block]; exact XR) | (show (Addr.add _ _).block ≠ _; rw [add_block]; exact XR) | exact XR) (.int .i64 ((rd_T58 l1 Xa).f2.f0))).trans Xj; replace Xj := (cell_far (p := ⟨Xc, 3, none⟩) (by first | (rw [add_block]; exact XS) | (show (Addr.add _ _).block ≠ _; rw [add_block]; exact XS) | exact XS) (.int .i64 ((rd_T58 l1 Xa).f2.f1))).trans Xj; replace Xj := (cell_far (p := ⟨Xc, 4, none⟩) (by first | (rw [add_block]; exact XT) | (show (Addr.add _ _).block ≠ _; rw [add_block]; exact XT) | exact XT) (.int .i64 ((rd_T58 l1 Xa).f2.f2))).trans Xj; clear XP; clear XQ; clear XR; clear XS; clear XT; replace p140 := eq_true p140; replace q140 := eq_true q140; have JY := Xy.out; have JZ := XV.out; have Te : w69.cell? ⟨Xl, 0, none⟩ = some (.int .i64 Xr) := (blk_cell Xe.out 0).trans rfl; have Tf : w69.cell? ⟨Xl, 1, none⟩ = some (.slice none 0 0) := (blk_cell Xe.out 1).trans rfl; have Tg : w69.cell? ⟨Xl, 2, none⟩ = some (.slice none 0 0) := (blk_cell Xe.out 2).trans rfl; have Th := blk_frozen Xe.out 0; have Ti := blk_frozen Xe.out 1; have Tj := blk_frozen Xe.out 2))
       refine bodyPost_ret (results_ct rfl _ _ Xl 31 #[.int .i64 0, .slice none 0 0, .slice none 0 0] (0, 0) _ rfl (by (with_reducible repeat apply upF); refine blk_put (cs := #[.int .i64 0, .slice none 0 0, .slice none 0 0]) ?_ 2 _ rfl; (with_reducible repeat apply upF); refine blk_put (cs := #[.int .i64 0, .slice none 0 0, .slice none 0 0]) ?_ 1 _ rfl; (with_reducible repeat apply upF); refine blk_put (cs := #[.int .i64 Xr, .slice none 0 0, .slice none 0 0]) ?_ 0 _ rfl; (with_reducible repeat apply upF); refine blk_far ?_ Xt.out _; (with_reducible repeat apply upF); refine blk_far ?_ Xt.out _; (with_reducible repeat apply upF); refine blk_far ?_ Xt.out _; (with_reducible repeat apply upF); refine blk_far ?_ Xt.out _; (with_reducible repeat apply upF); refine blk_far ?_ Xt.out _; exact upB Xe.out) Try.underlying31 rfl (by kernel_rfl)) rfl ?_
       exact ⟨_, _, by first | (simp only [Array.getD_eq_getD_getElem?, List.getElem?_toArray, List.getElem?_cons_succ, List.getElem?_cons_zero, Option.getD_some] <;> rfl) | rfl | (simp [errW_none, errW_some] <;> rfl) | (simp [*, errW_none, errW_some] <;> rfl), by first | exact Kd.R_nil _ _ _ _ _ | exact Kd.N_nil _ _ _ _ _ | exact Kd.V_nil _ _ _ _ _ | exact Kd.Q_nil _ _ _ _ _ | exact Kd.S_nil _ _ _ _ _, by first | exact Kd.R_nil _ _ _ _ _ | exact Kd.N_nil _ _ _ _ _ | exact Kd.V_nil _ _ _ _ _ | exact Kd.Q_nil _ _ _ _ _ | exact Kd.S_nil _ _ _ _ _, by repeat (first | (with_reducible first | exact HB.out | apply upS | refine below_set ?_ Xv.out | refine below_set ?_ Xw.out | refine below_set ?_ XN.out | refine below_set ?_ Ye.out) | exact HB.out)⟩
      rw [if_neg T8] at H
      have TY : decide ((wrap64 ((rd Xp Xa) - 1)) < ((rd_T58 l1 Xa).f1)) = false := decide_eq_false T8
      clear T8
      by_cases Q4 : Xa < (Xm.length : Int)
      case neg =>
       rw [if_neg Q4] at H
       exact absurd H (by simp)
      rw [if_pos Q4] at H
      have Q5 : decide (Xa < (Xm.length : Int)) = true := decide_eq_true Q4
      clear Q4
      have H' := Aside0.mk H
      clear H
      have p138 : 0 ≤ (Xa : Int) := of_decide_eq_true (by first | (with_reducible assumption) | assumption)
      have q138 : Xa < (l1.length : Int) := of_decide_eq_true (by first | (with_reducible assumption) | assumption)
      obtain ⟨ad138, e138, XO, XY, XZ, X0, X1⟩ := at_T58 T1.out Xa p138 q138
      (try rw [← Nbq55.out] at XO)
      cases e138
      replace XO := (HB.out.cell (World.block_lt_of_cell? w _ XO)).trans XO
      replace XY := (HB.out.cell (World.block_lt_of_cell? w _ XY)).trans XY
      replace XZ := (HB.out.cell (World.block_lt_of_cell? w _ XZ)).trans XZ
      replace X0 := (HB.out.cell (World.block_lt_of_cell? w _ X0)).trans X0
      replace X1 := (HB.out.cell (World.block_lt_of_cell? w _ X1)).trans X1
      replace p138 := eq_true p138
      replace q138 := eq_true q138
      try go_wp2_with (first | ((with_reducible refine gate_dst (N := 12) rfl ?_); (try (refine gate_guard (by rfl) ?_; dsimp only)); refine box_event ?hg (N := 12) ?hd (cs := #[.bool false, .int .i64 0, .int .i64 0, .int .i64 0, .int .i64 0]) (t := 58) ?hr ?_; (case hd => rfl); (case hg => rfl); (case hr => first | (go_simp; done) | (go_simp; rfl)); intro Xc hg w80 hbox hb; have X3 := Aside0.mk (Kd.R_below (by exact upR Xh.out) hb); have X4 := Aside0.mk (Kd.R_below (by exact upR Xg.out) hb); have X5 := Aside0.mk (blk_below (g := Xk) (o := .cells #[.int .i64 a0_0, .slice XJ Xp.length XG, .slice XI Xm.length XH] 31 (0, 0)) (by exact upB Xb.out) hb); have X6 := Aside0.mk (blk_below (g := Xl) (o := .cells #[.int .i64 Xr, .slice none 0 0, .slice none 0 0] 31 (0, 0)) (by exact upB Xe.out) hb); have Yf := Aside0.mk (blk_below (g := Xn) (o := .cells #[.int .i64 Xd, u138001, u138002] 31 (0, 0)) (by exact upB Xf.out) hb); have Yg := Aside0.mk (below_step (by repeat (first | (with_reducible first | exact HB.out | apply upS | refine below_set ?_ Xv.out | refine below_set ?_ Xw.out | refine below_set ?_ XN.out) | exact HB.out)) hb); have Yi := Aside0.mk (hbox); have YM := Aside0.mk ((by rw [hg]; exact (below_size (by repeat (first | (with_reducible first | exact HB.out | apply upS | refine below_set ?_ Xv.out | refine below_set ?_ Xw.out | refine below_set ?_ XN.out) | exact HB.out))) : w.heap.size ≤ Xc)); have YN := Aside0.mk ((by rw [hg]; exact (below_size (by repeat (first | (with_reducible first | exact HB.out | apply upS | refine below_set ?_ Xv.out | refine below_set ?_ Xw.out | refine below_set ?_ XN.out) | exact HB.out))) : w.heap.size ≤ Xc)); have YO := Aside0.mk ((by rw [hg]; exact Nat.ne_of_lt (blk_lt (g := Xk) (o := .cells #[.int .i64 a0_0, .slice XJ Xp.length XG, .slice XI Xm.length XH] 31 (0, 0)) (by exact upB Xb.out)) : Xk ≠ Xc)); have YP := Aside0.mk ((by rw [hg]; exact Nat.ne_of_gt (blk_lt (g := Xk) (o := .cells #[.int .i64 a0_0, .slice XJ Xp.length XG, .slice XI Xm.length XH] 31 (0, 0)) (by exact upB Xb.out)) : Xc ≠ Xk)); have YQ := Aside0.mk ((by rw [hg]; exact Nat.ne_of_lt (blk_lt (g := Xl) (o := .cells #[.int .i64 Xr, .slice none 0 0, .slice none 0 0] 31 (0, 0)) (by exact upB Xe.out)) : Xl ≠ Xc)); have YR := Aside0.mk ((by rw [hg]; exact Nat.ne_of_gt (blk_lt (g := Xl) (o := .cells #[.int .i64 Xr, .slice none 0 0, .slice none 0 0] 31 (0, 0)) (by exact upB Xe.out)) : Xc ≠ Xl)); have YS := Aside0.mk ((by rw [hg]; exact Nat.ne_of_lt (blk_lt (g := Xn) (o := .cells #[.int .i64 Xd, u138001, u138002] 31 (0, 0)) (by exact upB Xf.out)) : Xn ≠ Xc)); have YT := Aside0.mk ((by rw [hg]; exact Nat.ne_of_gt (blk_lt (g := Xn) (o := .cells #[.int .i64 Xd, u138001, u138002] 31 (0, 0)) (by exact upB Xf.out)) : Xc ≠ Xn)); clear Xh; clear Xg; clear Xb; clear Xe; clear Xf; clear HB; have Xh := X3; have Xg := X4; have Xb := X5; have Xe := X6; have Xf := Yf; have HB := Yg; have Xi := Yi; have X7 := YM; have Ye := YN; have XC := YO; have XW := YP; have Xt := YQ; have X2 := YR; have Xx := YS; have XF := YT; clear X3 X4 X5 X6 Yf Yg Yi YM YN YO YP YQ YR YS YT; clear hb hbox hg; have J0 := XW.out; have J1 := XC.out; have J2 := X2.out; have J3 := Xt.out; have J4 := XF.out; have J5 := Xx.out; have Tk : w80.cell? ⟨Xc, 0, none⟩ = some (.bool false) := (blk_cell Xi.out 0).trans rfl; have Tl : w80.cell? ⟨Xc, 1, none⟩ = some (.int .i64 0) := (blk_cell Xi.out 1).trans rfl; have Tm : w80.cell? ⟨Xc, 2, none⟩ = some (.int .i64 0) := (blk_cell Xi.out 2).trans rfl; have Tn : w80.cell? ⟨Xc, 3, none⟩ = some (.int .i64 0) := (blk_cell Xi.out 3).trans rfl; have To : w80.cell? ⟨Xc, 4, none⟩ = some (.int .i64 0) := (blk_cell Xi.out 4).trans rfl; have Tp := blk_frozen Xi.out 0; have Tq := blk_frozen Xi.out 1; have Tr := blk_frozen Xi.out 2; have Ts := blk_frozen Xi.out 3; have Tt := blk_frozen Xi.out 4; have J6 := XK.out; have J7 := XL.out; have J8 := XB.out; have J9 := XU.out; have Tu : w80.cell? ⟨Xk, 0, none⟩ = some (.int .i64 a0_0) := (blk_cell Xb.out 0).trans rfl; have Tv : w80.cell? ⟨Xk, 1, none⟩ = some (.slice XJ Xp.length XG) := (blk_cell Xb.out 1).trans rfl; have Tw : w80.cell? ⟨Xk, 2, none⟩ = some (.slice XI Xm.length XH) := (blk_cell Xb.out 2).trans rfl; have Tx := blk_frozen Xb.out 0; have Ty := blk_frozen Xb.out 1; have Tz := blk_frozen Xb.out 2; have p140 : 0 ≤ (Xa : Int) := of_decide_eq_true (by first | (with_reducible assumption) | assumption); have q140 : Xa < (Xp.length : Int) := of_decide_eq_true (by first | (with_reducible assumption) | assumption); obtain ⟨ad140, e140, Xj⟩ := Kd.at_int Yx.out Xa p140 q140; cases e140; have XP : ad140.block ≠ Xc := Nat.ne_of_lt (Nat.lt_of_lt_of_le (by have := World.block_lt_of_cell? _ _ Xj; first | rwa [add_block] at this | exact this) X7.out); have XQ : ad140.block ≠ Xc := Nat.ne_of_lt (Nat.lt_of_lt_of_le (by have := World.block_lt_of_cell? _ _ Xj; first | rwa [add_block] at this | exact this) X7.out); have XR : ad140.block ≠ Xc := Nat.ne_of_lt (Nat.lt_of_lt_of_le (by have := World.block_lt_of_cell? _ _ Xj; first | rwa [add_block] at this | exact this) X7.out); have XS : ad140.block ≠ Xc := Nat.ne_of_lt (Nat.lt_of_lt_of_le (by have := World.block_lt_of_cell? _ _ Xj; first | rwa [add_block] at this | exact this) X7.out); have XT : ad140.block ≠ Xc := Nat.ne_of_lt (Nat.lt_of_lt_of_le (by have := World.block_lt_of_cell? _ _ Xj; first | rwa [add_block] at this | exact this) X7.out); replace Xj := (HB.out.cell (World.block_lt_of_cell? w _ Xj)).trans Xj; replace Xj := (cell_far (p := ⟨Xc, 0, none⟩) (by first | (rw [add_block]; exact XP) | (show (Addr.add _ _).block ≠ _; rw [add_block]; exact XP) | exact XP) (.bool true)).trans Xj; replace Xj := (cell_far (p := ⟨Xc, 1, none⟩) (by first | (rw [add_block]; exact XQ) | (show (Addr.add _ _).block ≠ _; rw [add_block]; exact XQ) | exact XQ) (.int .i64 ((rd_T58 l1 Xa).f1))).trans Xj; replace Xj := (cell_far (p := ⟨Xc, 2, none⟩) (by first | (rw [add_block]; exact XR) | (show (Addr.add _ _).block ≠ _; rw [add_block]; exact XR) | exact XR) (.int .i64 ((rd_T58 l1 Xa).f2.f0))).trans Xj; replace Xj := (cell_far (p := ⟨Xc, 3, none⟩) (by first | (rw [add_block]; exact XS) | (show (Addr.add _ _).block ≠ _; rw [add_block]; exact XS) | exact XS) (.int .i64 ((rd_T58 l1 Xa).f2.f1))).trans Xj; replace Xj := (cell_far (p := ⟨Xc, 4, none⟩) (by first | (rw [add_block]; exact XT) | (show (Addr.add _ _).block ≠ _; rw [add_block]; exact XT) | exact XT) (.int .i64 ((rd_T58 l1 Xa).f2.f2))).trans Xj; clear XP; clear XQ; clear XR; clear XS; clear XT; replace p140 := eq_true p140; replace q140 := eq_true q140))
      have X3 : Aside0 (Kd.R (Kd.int .i64) 3 (((((w80.setCell ⟨Xc, 0, none⟩ (.bool true)).setCell ⟨Xc, 1, none⟩ (.int .i64 ((rd_T58 l1 Xa).f1))).setCell ⟨Xc, 2, none⟩ (.int .i64 ((rd_T58 l1 Xa).f2.f0))).setCell ⟨Xc, 3, none⟩ (.int .i64 ((rd_T58 l1 Xa).f2.f1))).setCell ⟨Xc, 4, none⟩ (.int .i64 ((rd_T58 l1 Xa).f2.f2))) w.heap.size (fun k_ => some k_ ≠ (u138002 : Value).ownBlock) u138001 Xs) := ⟨by (with_reducible repeat apply upG); exact Kd.R_mono (Kd.R_far (p := ⟨Xc, 4, none⟩) (Kd.R_far (p := ⟨Xc, 3, none⟩) (Kd.R_far (p := ⟨Xc, 2, none⟩) (Kd.R_far (p := ⟨Xc, 1, none⟩) (Kd.R_far (p := ⟨Xc, 0, none⟩) (Kd.R_types Xh.out Xi.out (by decide)) (fun _ hk => hk.2) (.bool true)) (fun _ hk => hk.2) (.int .i64 ((rd_T58 l1 Xa).f1))) (fun _ hk => hk.2) (.int .i64 ((rd_T58 l1 Xa).f2.f0))) (fun _ hk => hk.2) (.int .i64 ((rd_T58 l1 Xa).f2.f1))) (fun _ hk => hk.2) (.int .i64 ((rd_T58 l1 Xa).f2.f2))) (fun _ hk => hk.1)⟩
      have X4 : Aside0 (Kd.R (Kd.int .i64) 3 (((((w80.setCell ⟨Xc, 0, none⟩ (.bool true)).setCell ⟨Xc, 1, none⟩ (.int .i64 ((rd_T58 l1 Xa).f1))).setCell ⟨Xc, 2, none⟩ (.int .i64 ((rd_T58 l1 Xa).f2.f0))).setCell ⟨Xc, 3, none⟩ (.int .i64 ((rd_T58 l1 Xa).f2.f1))).setCell ⟨Xc, 4, none⟩ (.int .i64 ((rd_T58 l1 Xa).f2.f2))) w.heap.size (fun k_ => some k_ ≠ (u138001 : Value).ownBlock) u138002 Xq) := ⟨by (with_reducible repeat apply upG); exact Kd.R_mono (Kd.R_far (p := ⟨Xc, 4, none⟩) (Kd.R_far (p := ⟨Xc, 3, none⟩) (Kd.R_far (p := ⟨Xc, 2, none⟩) (Kd.R_far (p := ⟨Xc, 1, none⟩) (Kd.R_far (p := ⟨Xc, 0, none⟩) (Kd.R_types Xg.out Xi.out (by decide)) (fun _ hk => hk.2) (.bool true)) (fun _ hk => hk.2) (.int .i64 ((rd_T58 l1 Xa).f1))) (fun _ hk => hk.2) (.int .i64 ((rd_T58 l1 Xa).f2.f0))) (fun _ hk => hk.2) (.int .i64 ((rd_T58 l1 Xa).f2.f1))) (fun _ hk => hk.2) (.int .i64 ((rd_T58 l1 Xa).f2.f2))) (fun _ hk => hk.1)⟩
      have X5 : Aside0 ((((((w80.setCell ⟨Xc, 0, none⟩ (.bool true)).setCell ⟨Xc, 1, none⟩ (.int .i64 ((rd_T58 l1 Xa).f1))).setCell ⟨Xc, 2, none⟩ (.int .i64 ((rd_T58 l1 Xa).f2.f0))).setCell ⟨Xc, 3, none⟩ (.int .i64 ((rd_T58 l1 Xa).f2.f1))).setCell ⟨Xc, 4, none⟩ (.int .i64 ((rd_T58 l1 Xa).f2.f2))).heap[Xk]? = some (.cells #[.int .i64 a0_0, .slice (some ad140) Xp.length XG, .slice XI Xm.length XH] 31 (0, 0))) := ⟨by (with_reducible repeat apply upF); refine blk_far ?_ XC.out _; (with_reducible repeat apply upF); refine blk_far ?_ XC.out _; (with_reducible repeat apply upF); refine blk_far ?_ XC.out _; (with_reducible repeat apply upF); refine blk_far ?_ XC.out _; (with_reducible repeat apply upF); refine blk_far ?_ XC.out _; exact upB Xb.out⟩
      have X6 : Aside0 ((((((w80.setCell ⟨Xc, 0, none⟩ (.bool true)).setCell ⟨Xc, 1, none⟩ (.int .i64 ((rd_T58 l1 Xa).f1))).setCell ⟨Xc, 2, none⟩ (.int .i64 ((rd_T58 l1 Xa).f2.f0))).setCell ⟨Xc, 3, none⟩ (.int .i64 ((rd_T58 l1 Xa).f2.f1))).setCell ⟨Xc, 4, none⟩ (.int .i64 ((rd_T58 l1 Xa).f2.f2))).heap[Xl]? = some (.cells #[.int .i64 Xr, .slice none 0 0, .slice none 0 0] 31 (0, 0))) := ⟨by (with_reducible repeat apply upF); refine blk_far ?_ Xt.out _; (with_reducible repeat apply upF); refine blk_far ?_ Xt.out _; (with_reducible repeat apply upF); refine blk_far ?_ Xt.out _; (with_reducible repeat apply upF); refine blk_far ?_ Xt.out _; (with_reducible repeat apply upF); refine blk_far ?_ Xt.out _; exact upB Xe.out⟩
      have Yf : Aside0 ((((((w80.setCell ⟨Xc, 0, none⟩ (.bool true)).setCell ⟨Xc, 1, none⟩ (.int .i64 ((rd_T58 l1 Xa).f1))).setCell ⟨Xc, 2, none⟩ (.int .i64 ((rd_T58 l1 Xa).f2.f0))).setCell ⟨Xc, 3, none⟩ (.int .i64 ((rd_T58 l1 Xa).f2.f1))).setCell ⟨Xc, 4, none⟩ (.int .i64 ((rd_T58 l1 Xa).f2.f2))).heap[Xn]? = some (.cells #[.int .i64 Xd, u138001, u138002] 31 (0, 0))) := ⟨by (with_reducible repeat apply upF); refine blk_far ?_ Xx.out _; (with_reducible repeat apply upF); refine blk_far ?_ Xx.out _; (with_reducible repeat apply upF); refine blk_far ?_ Xx.out _; (with_reducible repeat apply upF); refine blk_far ?_ Xx.out _; (with_reducible repeat apply upF); refine blk_far ?_ Xx.out _; exact upB Xf.out⟩
      have Yg : Aside0 ((((((w80.setCell ⟨Xc, 0, none⟩ (.bool true)).setCell ⟨Xc, 1, none⟩ (.int .i64 ((rd_T58 l1 Xa).f1))).setCell ⟨Xc, 2, none⟩ (.int .i64 ((rd_T58 l1 Xa).f2.f0))).setCell ⟨Xc, 3, none⟩ (.int .i64 ((rd_T58 l1 Xa).f2.f1))).setCell ⟨Xc, 4, none⟩ (.int .i64 ((rd_T58 l1 Xa).f2.f2))).heap[Xc]? = some (.cells #[.bool true, .int .i64 ((rd_T58 l1 Xa).f1), .int .i64 ((rd_T58 l1 Xa).f2.f0), .int .i64 ((rd_T58 l1 Xa).f2.f1), .int .i64 ((rd_T58 l1 Xa).f2.f2)] 58 (0, 0))) := ⟨by (with_reducible repeat apply upF); refine blk_put (cs := #[.bool true, .int .i64 ((rd_T58 l1 Xa).f1), .int .i64 ((rd_T58 l1 Xa).f2.f0), .int .i64 ((rd_T58 l1 Xa).f2.f1), .int .i64 0]) ?_ 4 _ rfl; (with_reducible repeat apply upF); refine blk_put (cs := #[.bool true, .int .i64 ((rd_T58 l1 Xa).f1), .int .i64 ((rd_T58 l1 Xa).f2.f0), .int .i64 0, .int .i64 0]) ?_ 3 _ rfl; (with_reducible repeat apply upF); refine blk_put (cs := #[.bool true, .int .i64 ((rd_T58 l1 Xa).f1), .int .i64 0, .int .i64 0, .int .i64 0]) ?_ 2 _ rfl; (with_reducible repeat apply upF); refine blk_put (cs := #[.bool true, .int .i64 0, .int .i64 0, .int .i64 0, .int .i64 0]) ?_ 1 _ rfl; (with_reducible repeat apply upF); refine blk_put (cs := #[.bool false, .int .i64 0, .int .i64 0, .int .i64 0, .int .i64 0]) ?_ 0 _ rfl; exact upB Xi.out⟩
      have Yi : Aside0 (Below w.heap.size w (((((w80.setCell ⟨Xc, 0, none⟩ (.bool true)).setCell ⟨Xc, 1, none⟩ (.int .i64 ((rd_T58 l1 Xa).f1))).setCell ⟨Xc, 2, none⟩ (.int .i64 ((rd_T58 l1 Xa).f2.f0))).setCell ⟨Xc, 3, none⟩ (.int .i64 ((rd_T58 l1 Xa).f2.f1))).setCell ⟨Xc, 4, none⟩ (.int .i64 ((rd_T58 l1 Xa).f2.f2)))) := ⟨by repeat (first | (with_reducible first | exact HB.out | apply upS | refine below_set ?_ Xv.out | refine below_set ?_ Xw.out | refine below_set ?_ XN.out | refine below_set ?_ Ye.out) | exact HB.out)⟩
      (try clear Xh)
      (try clear Xg)
      (try clear Xb)
      (try clear Xe)
      (try clear Xf)
      (try clear Xi)
      (try clear HB)
      generalize (((((w80.setCell ⟨Xc, 0, none⟩ (.bool true)).setCell ⟨Xc, 1, none⟩ (.int .i64 ((rd_T58 l1 Xa).f1))).setCell ⟨Xc, 2, none⟩ (.int .i64 ((rd_T58 l1 Xa).f2.f0))).setCell ⟨Xc, 3, none⟩ (.int .i64 ((rd_T58 l1 Xa).f2.f1))).setCell ⟨Xc, 4, none⟩ (.int .i64 ((rd_T58 l1 Xa).f2.f2))) = w88 at X3 X4 X5 X6 Yf Yg Yi ⊢
      have Xh := X3
      have Xg := X4
      have Xb := X5
      have Xe := X6
      have Xf := Yf
      have Xi := Yg
      have HB := Yi
      clear X3 X4 X5 X6 Yf Yg Yi
      have X3 := Aside0.mk (Kd.R_drew Xh.out)
      have X4 := Aside0.mk (Kd.R_drew Xg.out)
      have X5 := Aside0.mk (blk_drew Xb.out)
      have X6 := Aside0.mk (blk_drew Xe.out)
      have Yf := Aside0.mk (blk_drew Xf.out)
      have Yg := Aside0.mk (blk_drew Xi.out)
      have Yi := Aside0.mk (below_drew1 HB.out)
      clear Xh
      clear Xg
      clear Xb
      clear Xe
      clear Xf
      clear Xi
      clear HB
      have Xh := X3
      have Xg := X4
      have Xb := X5
      have Xe := X6
      have Xf := Yf
      have Xi := Yg
      have HB := Yi
      clear X3 X4 X5 X6 Yf Yg Yi
      have p141 : 0 ≤ (Xa : Int) := of_decide_eq_true (by first | (with_reducible assumption) | assumption)
      have q141 : Xa < (Xm.length : Int) := of_decide_eq_true (by first | (with_reducible assumption) | assumption)
      obtain ⟨ad141, e141, Yp⟩ := Kd.at_int YL.out Xa p141 q141
      have Vx := Yp
      cases e141
      replace Yp := (HB.out.cell (World.block_lt_of_cell? w _ Yp)).trans Yp
      replace p141 := eq_true p141
      replace q141 := eq_true q141
      refine start_ (n := 13) (S := fun w' => w'.cell? ⟨Xn, 0, none⟩ = some (.int .i64 Xd) ∧ w'.cell? ⟨Xn, 1, none⟩ = some (u138001) ∧ w'.cell? ⟨Xn, 2, none⟩ = some (u138002) ∧ w'.cell? ⟨Xc, 0, none⟩ = some (.bool true) ∧ w'.cell? ⟨Xc, 1, none⟩ = some (.int .i64 ((rd_T58 l1 Xa).f1)) ∧ w'.cell? ⟨Xc, 2, none⟩ = some (.int .i64 ((rd_T58 l1 Xa).f2.f0)) ∧ w'.cell? ⟨Xc, 3, none⟩ = some (.int .i64 ((rd_T58 l1 Xa).f2.f1)) ∧ w'.cell? ⟨Xc, 4, none⟩ = some (.int .i64 ((rd_T58 l1 Xa).f2.f2)) ∧ w'.cell? ⟨Xk, 0, none⟩ = some (.int .i64 a0_0) ∧ w'.cell? ⟨Xk, 1, none⟩ = some (.slice (some ad140) Xp.length XG) ∧ w'.cell? ⟨Xk, 2, none⟩ = some (.slice (some ad141) Xm.length XH) ∧ w'.cell? (ad141.add (Xa).toNat) = some (.int .i64 (rd Xm Xa))) (ds := [12]) #[false, false, false, false, false, false, false, false, false, false, false, false, false] (by kernel_rfl) rfl rfl ⟨(blk_cell Xf.out 0).trans rfl, (blk_cell Xf.out 1).trans rfl, (blk_cell Xf.out 2).trans rfl, (blk_cell Xi.out 0).trans rfl, (blk_cell Xi.out 1).trans rfl, (blk_cell Xi.out 2).trans rfl, (blk_cell Xi.out 3).trans rfl, (blk_cell Xi.out 4).trans rfl, (blk_cell Xb.out 0).trans rfl, (blk_cell Xb.out 1).trans rfl, (blk_cell Xb.out 2).trans rfl, ((HB.out.cell (World.block_lt_of_cell? w _ Vx)).trans Vx)⟩ (fun hHeld => ?_); refine with_tabW section_Cut.tab18 section_Cut.bits18 (fun HT_ HW_ => ?_)
      generalize w88.drew = w89 at Xh Xg Xb Xe Xf Xi HB Yp hHeld ⊢
      refine pure_ (i := 0) (N := some 81) (v := ?_) (a' := ?_) #[true, false, false, false, false, false, false, false, false, false, false, false, false] rfl rfl (any_of HT_.out (by kernel_rfl)) (fun _ _ _ h => h) (Or.inl ⟨by rfl, ?_⟩) ?_ ?_
      rotate_left
      · intro w'; go_simp; with_reducible rfl
      rotate_left
      · simp only [Act.put, List.setIfInBounds_toArray, List.set_cons_zero, List.set_cons_succ, i64_w, i32_w]; rfl
      refine pure_ (i := 2) (N := some 83) (v := ?_) (a' := ?_) #[true, false, true, false, false, false, false, false, false, false, false, false, false] rfl rfl (any_of HT_.out (by kernel_rfl)) (fun _ _ _ h => h) (Or.inl ⟨by rfl, ?_⟩) ?_ ?_
      rotate_left
      · intro w'; go_simp; with_reducible rfl
      rotate_left
      · simp only [Act.put, List.setIfInBounds_toArray, List.set_cons_zero, List.set_cons_succ, i64_w, i32_w]; rfl
      refine pure_ (i := 4) (N := some 85) (v := ?_) (a' := ?_) #[true, false, true, false, true, false, false, false, false, false, false, false, false] rfl rfl (any_of HT_.out (by kernel_rfl)) (fun _ _ _ h => h) (Or.inl ⟨by rfl, ?_⟩) ?_ ?_
      rotate_left
      · intro w'; go_simp; with_reducible rfl
      rotate_left
      · simp only [Act.put, List.setIfInBounds_toArray, List.set_cons_zero, List.set_cons_succ, i64_w, i32_w]; rfl
      refine pure_ (i := 6) (N := some 87) (v := ?_) (a' := ?_) #[true, false, true, false, true, false, true, false, false, false, false, false, false] rfl rfl (any_of HT_.out (by kernel_rfl)) (fun _ _ _ h => h) (Or.inl ⟨by rfl, ?_⟩) ?_ ?_
      rotate_left
      · intro w'; go_simp; with_reducible rfl
      rotate_left
      · simp only [Act.put, List.setIfInBounds_toArray, List.set_cons_zero, List.set_cons_succ, i64_w, i32_w]; rfl
      refine take_ (i := 1) (N := some 82) (v := ?_) (a' := ?_) #[true, true, true, false, true, false, true, false, false, false, false, false, false] rfl rfl (take_ofW HT_.out HW_.out (by kernel_rfl)) (fun _ _ _ h => h) (Or.inl ⟨by rfl, ?_⟩) hHeld ?_ ?_
      rotate_left
      · rintro w' ⟨s0, s1, s2, s3, s4, s5, s6, s7, s8, s9, s10, s11⟩
        go_simp
        with_reducible rfl
      rotate_left
      · simp only [Act.put, List.setIfInBounds_toArray, List.set_cons_zero, List.set_cons_succ, i64_w, i32_w]; rfl
      refine take_ (i := 3) (N := some 84) (v := ?_) (a' := ?_) #[true, true, true, true, true, false, true, false, false, false, false, false, false] rfl rfl (take_ofW HT_.out HW_.out (by kernel_rfl)) (fun _ _ _ h => h) (Or.inl ⟨by rfl, ?_⟩) hHeld ?_ ?_
      rotate_left
      · rintro w' ⟨s0, s1, s2, s3, s4, s5, s6, s7, s8, s9, s10, s11⟩
        go_simp
        with_reducible rfl
      rotate_left
      · simp only [Act.put, List.setIfInBounds_toArray, List.set_cons_zero, List.set_cons_succ, i64_w, i32_w]; rfl
      refine take_ (i := 5) (N := some 86) (v := ?_) (a' := ?_) #[true, true, true, true, true, true, true, false, false, false, false, false, false] rfl rfl (take_ofW HT_.out HW_.out (by kernel_rfl)) (fun _ _ _ h => h) (Or.inl ⟨by rfl, ?_⟩) hHeld ?_ ?_
      rotate_left
      · rintro w' ⟨s0, s1, s2, s3, s4, s5, s6, s7, s8, s9, s10, s11⟩
        go_simp
        with_reducible rfl
      rotate_left
      · simp only [Act.put, List.setIfInBounds_toArray, List.set_cons_zero, List.set_cons_succ, i64_w, i32_w]; rfl
      refine pure_ (i := 7) (N := some 88) (v := ?_) (a' := ?_) #[true, true, true, true, true, true, true, true, false, false, false, false, false] rfl rfl (any_of HT_.out (by kernel_rfl)) (fun _ _ _ h => h) (Or.inl ⟨by rfl, ?_⟩) ?_ ?_
      rotate_left
      · intro w'; go_simp; with_reducible rfl
      rotate_left
      · simp only [Act.put, List.setIfInBounds_toArray, List.set_cons_zero, List.set_cons_succ, i64_w, i32_w]; rfl
      refine take_ (i := 8) (N := some 89) (v := ?_) (a' := ?_) #[true, true, true, true, true, true, true, true, true, false, false, false, false] rfl rfl (take_ofW HT_.out HW_.out (by kernel_rfl)) (fun _ _ _ h => h) (Or.inl ⟨by rfl, ?_⟩) hHeld ?_ ?_
      rotate_left
      · rintro w' ⟨s0, s1, s2, s3, s4, s5, s6, s7, s8, s9, s10, s11⟩
        go_simp
        with_reducible rfl
      rotate_left
      · simp only [Act.put, List.setIfInBounds_toArray, List.set_cons_zero, List.set_cons_succ, i64_w, i32_w]; rfl
      refine pure_ (i := 9) (N := some 90) (v := ?_) (a' := ?_) #[true, true, true, true, true, true, true, true, true, true, false, false, false] rfl rfl (any_of HT_.out (by kernel_rfl)) (fun _ _ _ h => h) (Or.inl ⟨by rfl, ?_⟩) ?_ ?_
      rotate_left
      · intro w'; go_simp; with_reducible rfl
      rotate_left
      · simp only [Act.put, List.setIfInBounds_toArray, List.set_cons_zero, List.set_cons_succ, i64_w, i32_w]; rfl
      refine pure_ (i := 10) (N := some 91) (v := ?_) (a' := ?_) #[true, true, true, true, true, true, true, true, true, true, true, false, false] rfl rfl (any_of HT_.out (by kernel_rfl)) (fun _ _ _ h => h) (Or.inl ⟨by rfl, ?_⟩) ?_ ?_
      rotate_left
      · intro w'; go_simp; with_reducible rfl
      rotate_left
      · simp only [Act.put, List.setIfInBounds_toArray, List.set_cons_zero, List.set_cons_succ, i64_w, i32_w]; rfl
      refine pure_ (i := 11) (N := some 92) (v := ?_) (a' := ?_) #[true, true, true, true, true, true, true, true, true, true, true, true, false] rfl rfl (any_of HT_.out (by kernel_rfl)) (fun _ _ _ h => h) (Or.inl ⟨by rfl, ?_⟩) ?_ ?_
      rotate_left
      · intro w'; go_simp; with_reducible rfl
      rotate_left
      · simp only [Act.put, List.setIfInBounds_toArray, List.set_cons_zero, List.set_cons_succ, i64_w, i32_w]; rfl
      refine last_ (i := 12) (N := none) #[true, true, true, true, true, true, true, true, true, true, true, true, true] rfl rfl (one_of HT_.out (by kernel_rfl)) (by decide) (fun K hK => ?_)
      have hs90 : w89.cell? ⟨Xn, 0, none⟩ = some (.int .i64 Xd) := (blk_cell Xf.out 0).trans rfl
      have hfs90 := blk_frozen Xf.out 0
      have hns90_0 := XB.out
      have hns90_1 := Xy.out
      have hns90_3 := XF.out
      have hms90_0 := XU.out
      have hms90_1 := XV.out
      have hms90_3 := Xx.out
      refine skip_ (w1 := ?_) (by rfl) rfl ?_ ?_
      rotate_left
      · go_simp
        rfl
      refine hK.out _ _ ?_
      clear hK K
      refine done_ (done_of HT_.out (by kernel_rfl)) ?_
      try go_wp2
      go_roundg k3
      case measure => have := HJ2.out; have := HK2.out; have := HK3.out; omega
      case rel => exact ⟨(wrap64 (Xa + 1)), (Xr), (wrap64 (Xd + (wrap64 (((rd_T58 l1 Xa).f1) * (rd Xm Xa))))), (Xs), (Xq), (u138001), (u138002), (by first | rfl | (simp; done) | (simp [*]; done)), H', ⟨by have := HJ2.out; have := HK2.out; have := HK3.out; omega⟩, ⟨by (with_reducible repeat apply upG); exact Kd.R_mono (Kd.R_far (p := ⟨Xn, 0, none⟩) (Kd.R_types Xh.out Xf.out (by decide)) (fun _ hk => hk.2) (.int .i64 (wrap64 (Xd + (wrap64 (((rd_T58 l1 Xa).f1) * (rd Xm Xa))))))) (fun _ hk => hk.1)⟩, ⟨by (with_reducible repeat apply upG); exact Kd.R_mono (Kd.R_far (p := ⟨Xn, 0, none⟩) (Kd.R_types Xg.out Xf.out (by decide)) (fun _ hk => hk.2) (.int .i64 (wrap64 (Xd + (wrap64 (((rd_T58 l1 Xa).f1) * (rd Xm Xa))))))) (fun _ hk => hk.1)⟩, ⟨by (with_reducible repeat apply upF); refine blk_far ?_ XB.out _; exact upB Xb.out⟩, ⟨by (with_reducible repeat apply upF); refine blk_far ?_ Xy.out _; exact upB Xe.out⟩, ⟨by (with_reducible repeat apply upF); refine blk_put (cs := #[.int .i64 Xd, u138001, u138002]) ?_ 0 _ rfl; exact upB Xf.out⟩, ⟨by repeat (first | (with_reducible first | exact HB.out | apply upS | refine below_set ?_ Xv.out | refine below_set ?_ Xw.out | refine below_set ?_ XN.out | refine below_set ?_ Ye.out) | exact HB.out)⟩⟩
     replace Q3 := Bool.eq_false_iff.mpr Q3
     subst Q3
     have H1 : ((section_Count.f ((rd_T58 l1 Xa).f2.f0) ((rd_T58 l1 Xa).f2.f1) ((rd_T58 l1 Xa).f2.f2)).bind fun Yo => (if Yo.1 > 0 then (if (mn ((rd_T58 l1 Xa).f2.f0) (wrap64 (((rd_T58 l1 Xa).f2.f0) + (wrap64 ((wrap64 (Yo.1 - 1)) * ((rd_T58 l1 Xa).f2.f2)))))) < 0 then (some (0, ([] : List Int), ([] : List Int), 92)) else (if (mx ((rd_T58 l1 Xa).f2.f0) (wrap64 (((rd_T58 l1 Xa).f2.f0) + (wrap64 ((wrap64 (Yo.1 - 1)) * ((rd_T58 l1 Xa).f2.f2)))))) > (wrap64 ((rd Xp Xa) - 1)) then (some (0, ([] : List Int), ([] : List Int), 92)) else (section_Cut.j3 k3 Xa Yo.1 ((rd_T58 l1 Xa).f2.f0) l1 (l1.length : Int) Xa a0_0 Xp Xm Xd Xs Xq false ((rd_T58 l1 Xa).f1) ((rd_T58 l1 Xa).f2.f0) ((rd_T58 l1 Xa).f2.f1) ((rd_T58 l1 Xa).f2.f2)))) else (section_Cut.j3 k3 Xa Yo.1 0 l1 (l1.length : Int) Xa a0_0 Xp Xm Xd Xs Xq false ((rd_T58 l1 Xa).f1) ((rd_T58 l1 Xa).f2.f0) ((rd_T58 l1 Xa).f2.f1) ((rd_T58 l1 Xa).f2.f2)))) = some (r1, r2, r3, r4) := by rw [if_neg (show ¬ (false = true) by decide)] at H; exact H
     clear H
     have H := H1
     clear H1
     replace H := Option.bind_eq_some_iff.mp H
     obtain ⟨⟨Yk, Gk⟩, Q6, H⟩ := H
     try dsimp only at H
     have Ky := Aside0.mk Q6
     clear Q6
     have T9 := Aside0.mk H
     clear H
     have p138 : 0 ≤ (Xa : Int) := of_decide_eq_true (by first | (with_reducible assumption) | assumption)
     have q138 : Xa < (l1.length : Int) := of_decide_eq_true (by first | (with_reducible assumption) | assumption)
     obtain ⟨ad138, e138, XO, XY, XZ, X0, X1⟩ := at_T58 T1.out Xa p138 q138
     (try rw [← Nbq55.out] at XO)
     cases e138
     replace XO := (HB.out.cell (World.block_lt_of_cell? w _ XO)).trans XO
     replace XY := (HB.out.cell (World.block_lt_of_cell? w _ XY)).trans XY
     replace XZ := (HB.out.cell (World.block_lt_of_cell? w _ XZ)).trans XZ
     replace X0 := (HB.out.cell (World.block_lt_of_cell? w _ X0)).trans X0
     replace X1 := (HB.out.cell (World.block_lt_of_cell? w _ X1)).trans X1
     replace p138 := eq_true p138
     replace q138 := eq_true q138
     go_upto_if 100 with (first | ((with_reducible refine gate_dst (N := 12) rfl ?_); (try (refine gate_guard (by rfl) ?_; dsimp only)); refine box_event ?hg (N := 12) ?hd (cs := #[.bool false, .int .i64 0, .int .i64 0, .int .i64 0, .int .i64 0]) (t := 58) ?hr ?_; (case hd => rfl); (case hg => rfl); (case hr => first | (go_simp; done) | (go_simp; rfl)); intro Xc hg w93 hbox hb; have X3 := Aside0.mk (Kd.R_below (by exact upR Xh.out) hb); have X4 := Aside0.mk (Kd.R_below (by exact upR Xg.out) hb); have X5 := Aside0.mk (blk_below (g := Xk) (o := .cells #[.int .i64 a0_0, .slice XJ Xp.length XG, .slice XI Xm.length XH] 31 (0, 0)) (by exact upB Xb.out) hb); have X6 := Aside0.mk (blk_below (g := Xl) (o := .cells #[.int .i64 Xr, .slice none 0 0, .slice none 0 0] 31 (0, 0)) (by exact upB Xe.out) hb); have Yf := Aside0.mk (blk_below (g := Xn) (o := .cells #[.int .i64 Xd, u138001, u138002] 31 (0, 0)) (by exact upB Xf.out) hb); have Yg := Aside0.mk (below_step (by repeat (first | (with_reducible first | exact HB.out | apply upS | refine below_set ?_ Xv.out | refine below_set ?_ Xw.out | refine below_set ?_ XN.out) | exact HB.out)) hb); have Yi := Aside0.mk (hbox); have YM := Aside0.mk ((by rw [hg]; exact (below_size (by repeat (first | (with_reducible first | exact HB.out | apply upS | refine below_set ?_ Xv.out | refine below_set ?_ Xw.out | refine below_set ?_ XN.out) | exact HB.out))) : w.heap.size ≤ Xc)); have YN := Aside0.mk ((by rw [hg]; exact (below_size (by repeat (first | (with_reducible first | exact HB.out | apply upS | refine below_set ?_ Xv.out | refine below_set ?_ Xw.out | refine below_set ?_ XN.out) | exact HB.out))) : w.heap.size ≤ Xc)); have YO := Aside0.mk ((by rw [hg]; exact Nat.ne_of_lt (blk_lt (g := Xk) (o := .cells #[.int .i64 a0_0, .slice XJ Xp.length XG, .slice XI Xm.length XH] 31 (0, 0)) (by exact upB Xb.out)) : Xk ≠ Xc)); have YP := Aside0.mk ((by rw [hg]; exact Nat.ne_of_gt (blk_lt (g := Xk) (o := .cells #[.int .i64 a0_0, .slice XJ Xp.length XG, .slice XI Xm.length XH] 31 (0, 0)) (by exact upB Xb.out)) : Xc ≠ Xk)); have YQ := Aside0.mk ((by rw [hg]; exact Nat.ne_of_lt (blk_lt (g := Xl) (o := .cells #[.int .i64 Xr, .slice none 0 0, .slice none 0 0] 31 (0, 0)) (by exact upB Xe.out)) : Xl ≠ Xc)); have YR := Aside0.mk ((by rw [hg]; exact Nat.ne_of_gt (blk_lt (g := Xl) (o := .cells #[.int .i64 Xr, .slice none 0 0, .slice none 0 0] 31 (0, 0)) (by exact upB Xe.out)) : Xc ≠ Xl)); have YS := Aside0.mk ((by rw [hg]; exact Nat.ne_of_lt (blk_lt (g := Xn) (o := .cells #[.int .i64 Xd, u138001, u138002] 31 (0, 0)) (by exact upB Xf.out)) : Xn ≠ Xc)); have YT := Aside0.mk ((by rw [hg]; exact Nat.ne_of_gt (blk_lt (g := Xn) (o := .cells #[.int .i64 Xd, u138001, u138002] 31 (0, 0)) (by exact upB Xf.out)) : Xc ≠ Xn)); clear Xh; clear Xg; clear Xb; clear Xe; clear Xf; clear HB; have Xh := X3; have Xg := X4; have Xb := X5; have Xe := X6; have Xf := Yf; have HB := Yg; have Xi := Yi; have X7 := YM; have Ye := YN; have XC := YO; have XW := YP; have Xt := YQ; have X2 := YR; have Xx := YS; have XF := YT; clear X3 X4 X5 X6 Yf Yg Yi YM YN YO YP YQ YR YS YT; clear hb hbox hg; have Ka := XW.out; have Kb := XC.out; have Kc := X2.out; have Ke := Xt.out; have Kf := XF.out; have Kg := Xx.out; have TA : w93.cell? ⟨Xc, 0, none⟩ = some (.bool false) := (blk_cell Xi.out 0).trans rfl; have TB : w93.cell? ⟨Xc, 1, none⟩ = some (.int .i64 0) := (blk_cell Xi.out 1).trans rfl; have TC : w93.cell? ⟨Xc, 2, none⟩ = some (.int .i64 0) := (blk_cell Xi.out 2).trans rfl; have TD : w93.cell? ⟨Xc, 3, none⟩ = some (.int .i64 0) := (blk_cell Xi.out 3).trans rfl; have TE : w93.cell? ⟨Xc, 4, none⟩ = some (.int .i64 0) := (blk_cell Xi.out 4).trans rfl; have TF := blk_frozen Xi.out 0; have TG := blk_frozen Xi.out 1; have TH := blk_frozen Xi.out 2; have TI := blk_frozen Xi.out 3; have TJ := blk_frozen Xi.out 4; have Kh := XK.out; have Ki := XL.out; have Kj := XB.out; have Kk := XU.out; have VG : w93.cell? ⟨Xk, 0, none⟩ = some (.int .i64 a0_0) := (blk_cell Xb.out 0).trans rfl; have VH : w93.cell? ⟨Xk, 1, none⟩ = some (.slice XJ Xp.length XG) := (blk_cell Xb.out 1).trans rfl; have VI : w93.cell? ⟨Xk, 2, none⟩ = some (.slice XI Xm.length XH) := (blk_cell Xb.out 2).trans rfl; have VJ := blk_frozen Xb.out 0; have VK := blk_frozen Xb.out 1; have VL := blk_frozen Xb.out 2; have p140 : 0 ≤ (Xa : Int) := of_decide_eq_true (by first | (with_reducible assumption) | assumption); have q140 : Xa < (Xp.length : Int) := of_decide_eq_true (by first | (with_reducible assumption) | assumption); obtain ⟨ad140, e140, Xj⟩ := Kd.at_int Yx.out Xa p140 q140; cases e140; have XP : ad140.block ≠ Xc := Nat.ne_of_lt (Nat.lt_of_lt_of_le (by have := World.block_lt_of_cell? _ _ Xj; first | rwa [add_block] at this | exact this) X7.out); have XQ : ad140.block ≠ Xc := Nat.ne_of_lt (Nat.lt_of_lt_of_le (by have := World.block_lt_of_cell? _ _ Xj; first | rwa [add_block] at this | exact this) X7.out); have XR : ad140.block ≠ Xc := Nat.ne_of_lt (Nat.lt_of_lt_of_le (by have := World.block_lt_of_cell? _ _ Xj; first | rwa [add_block] at this | exact this) X7.out); have XS : ad140.block ≠ Xc := Nat.ne_of_lt (Nat.lt_of_lt_of_le (by have := World.block_lt_of_cell? _ _ Xj; first | rwa [add_block] at this | exact this) X7.out); have XT : ad140.block ≠ Xc := Nat.ne_of_lt (Nat.lt_of_lt_of_le (by have := World.block_lt_of_cell? _ _ Xj; first | rwa [add_block] at this | exact this) X7.out); replace Xj := (HB.out.cell (World.block_lt_of_cell? w _ Xj)).trans Xj; replace Xj := (cell_far (p := ⟨Xc, 0, none⟩) (by first | (rw [add_block]; exact XP) | (show (Addr.add _ _).block ≠ _; rw [add_block]; exact XP) | exact XP) (.bool false)).trans Xj; replace Xj := (cell_far (p := ⟨Xc, 1, none⟩) (by first | (rw [add_block]; exact XQ) | (show (Addr.add _ _).block ≠ _; rw [add_block]; exact XQ) | exact XQ) (.int .i64 ((rd_T58 l1 Xa).f1))).trans Xj; replace Xj := (cell_far (p := ⟨Xc, 2, none⟩) (by first | (rw [add_block]; exact XR) | (show (Addr.add _ _).block ≠ _; rw [add_block]; exact XR) | exact XR) (.int .i64 ((rd_T58 l1 Xa).f2.f0))).trans Xj; replace Xj := (cell_far (p := ⟨Xc, 3, none⟩) (by first | (rw [add_block]; exact XS) | (show (Addr.add _ _).block ≠ _; rw [add_block]; exact XS) | exact XS) (.int .i64 ((rd_T58 l1 Xa).f2.f1))).trans Xj; replace Xj := (cell_far (p := ⟨Xc, 4, none⟩) (by first | (rw [add_block]; exact XT) | (show (Addr.add _ _).block ≠ _; rw [add_block]; exact XT) | exact XT) (.int .i64 ((rd_T58 l1 Xa).f2.f2))).trans Xj; clear XP; clear XQ; clear XR; clear XS; clear XT; replace p140 := eq_true p140; replace q140 := eq_true q140) | ((with_reducible refine gate_callee (f := 12) rfl ?_); refine goesL_ (some 96) rfl rfl Try.func12 (by kernel_rfl) rfl #[.agg #[.int .i64 ((rd_T58 l1 Xa).f2.f0), .int .i64 ((rd_T58 l1 Xa).f2.f1), .int .i64 ((rd_T58 l1 Xa).f2.f2)]] rfl (by (try simp only [List.map_toArray, List.map_cons, List.map_nil]); first | done | rfl | (simp only [List.length_drop, List.length_take]; rfl)) ?_; (with_reducible refine (section_Count.calls ((rd_T58 l1 Xa).f2.f0) ((rd_T58 l1 Xa).f2.f1) ((rd_T58 l1 Xa).f2.f2) Yk Gk _ Ky.out).mono ?_); rintro e w101 ⟨rfl, hb⟩; refine ⟨_, rfl, ?_⟩; have X3 := Aside0.mk (Kd.R_below (by (with_reducible repeat apply upG); exact (Kd.R_mono (Kd.R_far (p := ⟨Xc, 4, none⟩) (Kd.R_far (p := ⟨Xc, 3, none⟩) (Kd.R_far (p := ⟨Xc, 2, none⟩) (Kd.R_far (p := ⟨Xc, 1, none⟩) (Kd.R_far (p := ⟨Xc, 0, none⟩) (Kd.R_types Xh.out Xi.out (by decide)) (fun _ hk => hk.2) (.bool false)) (fun _ hk => hk.2) (.int .i64 ((rd_T58 l1 Xa).f1))) (fun _ hk => hk.2) (.int .i64 ((rd_T58 l1 Xa).f2.f0))) (fun _ hk => hk.2) (.int .i64 ((rd_T58 l1 Xa).f2.f1))) (fun _ hk => hk.2) (.int .i64 ((rd_T58 l1 Xa).f2.f2))) (fun _ h_ => h_.1))) hb); have X4 := Aside0.mk (Kd.R_below (by (with_reducible repeat apply upG); exact (Kd.R_mono (Kd.R_far (p := ⟨Xc, 4, none⟩) (Kd.R_far (p := ⟨Xc, 3, none⟩) (Kd.R_far (p := ⟨Xc, 2, none⟩) (Kd.R_far (p := ⟨Xc, 1, none⟩) (Kd.R_far (p := ⟨Xc, 0, none⟩) (Kd.R_types Xg.out Xi.out (by decide)) (fun _ hk => hk.2) (.bool false)) (fun _ hk => hk.2) (.int .i64 ((rd_T58 l1 Xa).f1))) (fun _ hk => hk.2) (.int .i64 ((rd_T58 l1 Xa).f2.f0))) (fun _ hk => hk.2) (.int .i64 ((rd_T58 l1 Xa).f2.f1))) (fun _ hk => hk.2) (.int .i64 ((rd_T58 l1 Xa).f2.f2))) (fun _ h_ => h_.1))) hb); have X5 := Aside0.mk (blk_below (g := Xk) (o := .cells #[.int .i64 a0_0, .slice (some ad140) Xp.length XG, .slice XI Xm.length XH] 31 (0, 0)) (by (with_reducible repeat apply upF); refine blk_far ?_ XC.out _; (with_reducible repeat apply upF); refine blk_far ?_ XC.out _; (with_reducible repeat apply upF); refine blk_far ?_ XC.out _; (with_reducible repeat apply upF); refine blk_far ?_ XC.out _; (with_reducible repeat apply upF); refine blk_far ?_ XC.out _; exact upB Xb.out) hb); have X6 := Aside0.mk (blk_below (g := Xl) (o := .cells #[.int .i64 Xr, .slice none 0 0, .slice none 0 0] 31 (0, 0)) (by (with_reducible repeat apply upF); refine blk_far ?_ Xt.out _; (with_reducible repeat apply upF); refine blk_far ?_ Xt.out _; (with_reducible repeat apply upF); refine blk_far ?_ Xt.out _; (with_reducible repeat apply upF); refine blk_far ?_ Xt.out _; (with_reducible repeat apply upF); refine blk_far ?_ Xt.out _; exact upB Xe.out) hb); have Yf := Aside0.mk (blk_below (g := Xn) (o := .cells #[.int .i64 Xd, u138001, u138002] 31 (0, 0)) (by (with_reducible repeat apply upF); refine blk_far ?_ Xx.out _; (with_reducible repeat apply upF); refine blk_far ?_ Xx.out _; (with_reducible repeat apply upF); refine blk_far ?_ Xx.out _; (with_reducible repeat apply upF); refine blk_far ?_ Xx.out _; (with_reducible repeat apply upF); refine blk_far ?_ Xx.out _; exact upB Xf.out) hb); have Yg := Aside0.mk (blk_below (g := Xc) (o := .cells #[.bool false, .int .i64 ((rd_T58 l1 Xa).f1), .int .i64 ((rd_T58 l1 Xa).f2.f0), .int .i64 ((rd_T58 l1 Xa).f2.f1), .int .i64 ((rd_T58 l1 Xa).f2.f2)] 58 (0, 0)) (by (with_reducible repeat apply upF); refine blk_put (cs := #[.bool false, .int .i64 ((rd_T58 l1 Xa).f1), .int .i64 ((rd_T58 l1 Xa).f2.f0), .int .i64 ((rd_T58 l1 Xa).f2.f1), .int .i64 0]) ?_ 4 _ rfl; (with_reducible repeat apply upF); refine blk_put (cs := #[.bool false, .int .i64 ((rd_T58 l1 Xa).f1), .int .i64 ((rd_T58 l1 Xa).f2.f0), .int .i64 0, .int .i64 0]) ?_ 3 _ rfl; (with_reducible repeat apply upF); refine blk_put (cs := #[.bool false, .int .i64 ((rd_T58 l1 Xa).f1), .int .i64 0, .int .i64 0, .int .i64 0]) ?_ 2 _ rfl; (with_reducible repeat apply upF); refine blk_put (cs := #[.bool false, .int .i64 0, .int .i64 0, .int .i64 0, .int .i64 0]) ?_ 1 _ rfl; (with_reducible repeat apply upF); refine blk_put (cs := #[.bool false, .int .i64 0, .int .i64 0, .int .i64 0, .int .i64 0]) ?_ 0 _ rfl; exact upB Xi.out) hb); have Yi := Aside0.mk (below_step (by repeat (first | (with_reducible first | exact HB.out | apply upS | refine below_set ?_ Xv.out | refine below_set ?_ Xw.out | refine below_set ?_ XN.out | refine below_set ?_ Ye.out) | exact HB.out)) hb); clear Xh; clear Xg; clear Xb; clear Xe; clear Xf; clear Xi; clear HB; have Xh := X3; have Xg := X4; have Xb := X5; have Xe := X6; have Xf := Yf; have Xi := Yg; have HB := Yi; clear X3 X4 X5 X6 Yf Yg Yi; (try clear hb); (try clear Qk); (try clear hk); (try clear hi)))
     (try simp only [Act.put, List.setIfInBounds_toArray, List.set_cons_zero, List.set_cons_succ])
     go_cut [16] (fun v16 wc => ∃ (kq : Nat) (XM : Int) (X8 : Int), v16 = .int .i64 XM ∧ Aside0 (section_Cut.j3 kq Xa Yk XM l1 (l1.length : Int) Xa a0_0 Xp Xm Xd Xs Xq false ((rd_T58 l1 Xa).f1) ((rd_T58 l1 Xa).f2.f0) ((rd_T58 l1 Xa).f2.f1) ((rd_T58 l1 Xa).f2.f2) = some (r1, r2, r3, r4)) ∧ Aside0 (kq ≤ k3) ∧ Aside0 (Kd.R (Kd.int .i64) 3 wc w.heap.size (fun k_ => some k_ ≠ (u138002 : Value).ownBlock) u138001 Xs) ∧ Aside0 (Kd.R (Kd.int .i64) 3 wc w.heap.size (fun k_ => some k_ ≠ (u138001 : Value).ownBlock) u138002 Xq) ∧ Aside0 (wc.heap[Xk]? = some (.cells #[.int .i64 a0_0, (.slice (some ad140) Xp.length XG), (.slice XI Xm.length XH)] 31 (0, 0))) ∧ Aside0 (wc.heap[Xl]? = some (.cells #[.int .i64 X8, (.slice none 0 0), (.slice none 0 0)] 31 (0, 0))) ∧ Aside0 (wc.heap[Xn]? = some (.cells #[.int .i64 Xd, u138001, u138002] 31 (0, 0))) ∧ Aside0 (wc.heap[Xc]? = some (.cells #[.bool false, .int .i64 ((rd_T58 l1 Xa).f1), .int .i64 ((rd_T58 l1 Xa).f2.f0), .int .i64 ((rd_T58 l1 Xa).f2.f1), .int .i64 ((rd_T58 l1 Xa).f2.f2)] 58 (0, 0))) ∧ Aside0 (Below w.heap.size w wc))
     case first =>
      have H := T9.out
      clear T9
      by_cases Y8 : Yk > 0
      case neg =>
       rw [if_neg Y8] at H
       have Yw : decide (0 < Yk) = false := decide_eq_false Y8
       clear Y8
       (first | rw [Yw] | (simp only [i64_w, i32_w]; rw [Yw]) | skip)
       have H' := Aside0.mk H
       clear H
       go_wp2
       go_meet
       case rel => exact ⟨_, (0), (Xr), (by first | rfl | (simp; done) | (simp [*]; done)), H', ⟨by have := HJ2.out; have := HK2.out; have := HK3.out; first | omega | exact Nat.le_refl _⟩, ⟨by exact upR Xh.out⟩, ⟨by exact upR Xg.out⟩, ⟨by exact upB Xb.out⟩, ⟨by exact upB Xe.out⟩, ⟨by exact upB Xf.out⟩, ⟨by exact upB Xi.out⟩, ⟨by repeat (first | (with_reducible first | exact HB.out | apply upS | refine below_set ?_ Xv.out | refine below_set ?_ Xw.out | refine below_set ?_ XN.out | refine below_set ?_ Ye.out) | exact HB.out)⟩⟩
      rw [if_pos Y8] at H
      have Yw : decide (0 < Yk) = true := decide_eq_true Y8
      clear Y8
      (first | rw [Yw] | (simp only [i64_w, i32_w]; rw [Yw]) | skip)
      obtain ⟨ji103, hji103⟩ : ∃ j_ : Int, (mn ((rd_T58 l1 Xa).f2.f0) (wrap64 (((rd_T58 l1 Xa).f2.f0) + (wrap64 ((wrap64 (Yk - 1)) * ((rd_T58 l1 Xa).f2.f2)))))) = j_ := ⟨_, rfl⟩
      replace H : (if (ji103) < 0 then (some (0, ([] : List Int), ([] : List Int), 92)) else (if (mx ((rd_T58 l1 Xa).f2.f0) (wrap64 (((rd_T58 l1 Xa).f2.f0) + (wrap64 ((wrap64 (Yk - 1)) * ((rd_T58 l1 Xa).f2.f2)))))) > (wrap64 ((rd Xp Xa) - 1)) then (some (0, ([] : List Int), ([] : List Int), 92)) else (section_Cut.j3 k3 Xa Yk ((rd_T58 l1 Xa).f2.f0) l1 (l1.length : Int) Xa a0_0 Xp Xm Xd Xs Xq false ((rd_T58 l1 Xa).f1) ((rd_T58 l1 Xa).f2.f0) ((rd_T58 l1 Xa).f2.f1) ((rd_T58 l1 Xa).f2.f2)))) = some (r1, r2, r3, r4) := by first | (rw [hji103] at H; exact H) | (simp only [hji103] at H ⊢; exact H)
      have hji103_ : (if (wrap64 (((rd_T58 l1 Xa).f2.f0) + (wrap64 ((wrap64 (Yk - 1)) * ((rd_T58 l1 Xa).f2.f2))))) < ((rd_T58 l1 Xa).f2.f0) then (wrap64 (((rd_T58 l1 Xa).f2.f0) + (wrap64 ((wrap64 (Yk - 1)) * ((rd_T58 l1 Xa).f2.f2))))) else ((rd_T58 l1 Xa).f2.f0)) = ji103 := hji103
      by_cases Y9 : (ji103) < 0
      case pos =>
       rw [if_pos Y9] at H
       have VM : decide ((ji103) < 0) = true := decide_eq_true Y9
       clear Y9
       simp only [Option.some.injEq, Prod.mk.injEq] at H
       obtain ⟨rfl, rfl, rfl, rfl⟩ := H
       have Gl := XW.out
       have Gm := XC.out
       have Gn := X2.out
       have Gp := Xt.out
       have Gq := XF.out
       have Gr := Xx.out
       have VN : w101.cell? ⟨Xc, 0, none⟩ = some (.bool false) := (blk_cell Xi.out 0).trans rfl
       have VO : w101.cell? ⟨Xc, 1, none⟩ = some (.int .i64 ((rd_T58 l1 Xa).f1)) := (blk_cell Xi.out 1).trans rfl
       have VP : w101.cell? ⟨Xc, 2, none⟩ = some (.int .i64 ((rd_T58 l1 Xa).f2.f0)) := (blk_cell Xi.out 2).trans rfl
       have VQ : w101.cell? ⟨Xc, 3, none⟩ = some (.int .i64 ((rd_T58 l1 Xa).f2.f1)) := (blk_cell Xi.out 3).trans rfl
       have VR : w101.cell? ⟨Xc, 4, none⟩ = some (.int .i64 ((rd_T58 l1 Xa).f2.f2)) := (blk_cell Xi.out 4).trans rfl
       have VS := blk_frozen Xi.out 0
       have VT := blk_frozen Xi.out 1
       have VU := blk_frozen Xi.out 2
       have VV := blk_frozen Xi.out 3
       have VW := blk_frozen Xi.out 4
       have Gs := XL.out
       have Gt := XK.out
       have Gu := Xy.out
       have Gv := XV.out
       have VX : w101.cell? ⟨Xl, 0, none⟩ = some (.int .i64 Xr) := (blk_cell Xe.out 0).trans rfl
       have VY : w101.cell? ⟨Xl, 1, none⟩ = some (.slice none 0 0) := (blk_cell Xe.out 1).trans rfl
       have VZ : w101.cell? ⟨Xl, 2, none⟩ = some (.slice none 0 0) := (blk_cell Xe.out 2).trans rfl
       have V0 := blk_frozen Xe.out 0
       have V1 := blk_frozen Xe.out 1
       have V2 := blk_frozen Xe.out 2
       go_wp2
       refine bodyPost_ret (results_ct rfl _ _ Xl 31 #[.int .i64 0, .slice none 0 0, .slice none 0 0] (0, 0) _ rfl (by (with_reducible repeat apply upF); refine blk_put (cs := #[.int .i64 0, .slice none 0 0, .slice none 0 0]) ?_ 2 _ rfl; (with_reducible repeat apply upF); refine blk_put (cs := #[.int .i64 0, .slice none 0 0, .slice none 0 0]) ?_ 1 _ rfl; (with_reducible repeat apply upF); refine blk_put (cs := #[.int .i64 Xr, .slice none 0 0, .slice none 0 0]) ?_ 0 _ rfl; exact upB Xe.out) Try.underlying31 rfl (by kernel_rfl)) rfl ?_
       exact ⟨_, _, by first | (simp only [Array.getD_eq_getD_getElem?, List.getElem?_toArray, List.getElem?_cons_succ, List.getElem?_cons_zero, Option.getD_some] <;> rfl) | rfl | (simp [errW_none, errW_some] <;> rfl) | (simp only [← hji103]; first | rfl | (simp [errW_none, errW_some] <;> rfl)) | (simp [*, errW_none, errW_some] <;> rfl), by first | exact Kd.R_nil _ _ _ _ _ | exact Kd.N_nil _ _ _ _ _ | exact Kd.V_nil _ _ _ _ _ | exact Kd.Q_nil _ _ _ _ _ | exact Kd.S_nil _ _ _ _ _, by first | exact Kd.R_nil _ _ _ _ _ | exact Kd.N_nil _ _ _ _ _ | exact Kd.V_nil _ _ _ _ _ | exact Kd.Q_nil _ _ _ _ _ | exact Kd.S_nil _ _ _ _ _, by repeat (first | (with_reducible first | exact HB.out | apply upS | refine below_set ?_ Xv.out | refine below_set ?_ Xw.out | refine below_set ?_ XN.out | refine below_set ?_ Ye.out) | exact HB.out)⟩
      rw [if_neg Y9] at H
      have VM : decide ((ji103) < 0) = false := decide_eq_false Y9
      clear Y9
      obtain ⟨ji112, hji112⟩ : ∃ j_ : Int, (mx ((rd_T58 l1 Xa).f2.f0) (wrap64 (((rd_T58 l1 Xa).f2.f0) + (wrap64 ((wrap64 (Yk - 1)) * ((rd_T58 l1 Xa).f2.f2)))))) = j_ := ⟨_, rfl⟩
      replace H : (if (ji112) > (wrap64 ((rd Xp Xa) - 1)) then (some (0, ([] : List Int), ([] : List Int), 92)) else (section_Cut.j3 k3 Xa Yk ((rd_T58 l1 Xa).f2.f0) l1 (l1.length : Int) Xa a0_0 Xp Xm Xd Xs Xq false ((rd_T58 l1 Xa).f1) ((rd_T58 l1 Xa).f2.f0) ((rd_T58 l1 Xa).f2.f1) ((rd_T58 l1 Xa).f2.f2))) = some (r1, r2, r3, r4) := by first | (rw [hji112] at H; exact H) | (simp only [hji112] at H ⊢; exact H)
      have hji112_ : (if ((rd_T58 l1 Xa).f2.f0) < (wrap64 (((rd_T58 l1 Xa).f2.f0) + (wrap64 ((wrap64 (Yk - 1)) * ((rd_T58 l1 Xa).f2.f2))))) then (wrap64 (((rd_T58 l1 Xa).f2.f0) + (wrap64 ((wrap64 (Yk - 1)) * ((rd_T58 l1 Xa).f2.f2))))) else ((rd_T58 l1 Xa).f2.f0)) = ji112 := hji112
      by_cases Za : (ji112) > (wrap64 ((rd Xp Xa) - 1))
      case neg =>
       rw [if_neg Za] at H
       have V3 : decide ((wrap64 ((rd Xp Xa) - 1)) < (ji112)) = false := decide_eq_false Za
       clear Za
       have H' := Aside0.mk H
       clear H
       have Gw := XW.out
       have Gx := XC.out
       have Gy := X2.out
       have Gz := Xt.out
       have GA := XF.out
       have GB := Xx.out
       have V4 : w101.cell? ⟨Xc, 0, none⟩ = some (.bool false) := (blk_cell Xi.out 0).trans rfl
       have V5 : w101.cell? ⟨Xc, 1, none⟩ = some (.int .i64 ((rd_T58 l1 Xa).f1)) := (blk_cell Xi.out 1).trans rfl
       have V6 : w101.cell? ⟨Xc, 2, none⟩ = some (.int .i64 ((rd_T58 l1 Xa).f2.f0)) := (blk_cell Xi.out 2).trans rfl
       have V7 : w101.cell? ⟨Xc, 3, none⟩ = some (.int .i64 ((rd_T58 l1 Xa).f2.f1)) := (blk_cell Xi.out 3).trans rfl
       have V8 : w101.cell? ⟨Xc, 4, none⟩ = some (.int .i64 ((rd_T58 l1 Xa).f2.f2)) := (blk_cell Xi.out 4).trans rfl
       have V9 := blk_frozen Xi.out 0
       have Ua := blk_frozen Xi.out 1
       have Ub := blk_frozen Xi.out 2
       have Uc := blk_frozen Xi.out 3
       have Ud := blk_frozen Xi.out 4
       go_wp2
       go_meet
       case rel => exact ⟨_, ((rd_T58 l1 Xa).f2.f0), (Xr), (by first | rfl | (simp; done) | (simp [*]; done)), H', ⟨by have := HJ2.out; have := HK2.out; have := HK3.out; first | omega | exact Nat.le_refl _⟩, ⟨by exact upR Xh.out⟩, ⟨by exact upR Xg.out⟩, ⟨by exact upB Xb.out⟩, ⟨by exact upB Xe.out⟩, ⟨by exact upB Xf.out⟩, ⟨by exact upB Xi.out⟩, ⟨by repeat (first | (with_reducible first | exact HB.out | apply upS | refine below_set ?_ Xv.out | refine below_set ?_ Xw.out | refine below_set ?_ XN.out | refine below_set ?_ Ye.out) | exact HB.out)⟩⟩
      rw [if_pos Za] at H
      have V3 : decide ((wrap64 ((rd Xp Xa) - 1)) < (ji112)) = true := decide_eq_true Za
      clear Za
      simp only [Option.some.injEq, Prod.mk.injEq] at H
      obtain ⟨rfl, rfl, rfl, rfl⟩ := H
      have GC := XW.out
      have GD := XC.out
      have GE := X2.out
      have GF := Xt.out
      have GG := XF.out
      have GH := Xx.out
      have Ue : w101.cell? ⟨Xc, 0, none⟩ = some (.bool false) := (blk_cell Xi.out 0).trans rfl
      have Uf : w101.cell? ⟨Xc, 1, none⟩ = some (.int .i64 ((rd_T58 l1 Xa).f1)) := (blk_cell Xi.out 1).trans rfl
      have Ug : w101.cell? ⟨Xc, 2, none⟩ = some (.int .i64 ((rd_T58 l1 Xa).f2.f0)) := (blk_cell Xi.out 2).trans rfl
      have Uh : w101.cell? ⟨Xc, 3, none⟩ = some (.int .i64 ((rd_T58 l1 Xa).f2.f1)) := (blk_cell Xi.out 3).trans rfl
      have Ui : w101.cell? ⟨Xc, 4, none⟩ = some (.int .i64 ((rd_T58 l1 Xa).f2.f2)) := (blk_cell Xi.out 4).trans rfl
      have Uj := blk_frozen Xi.out 0
      have Uk := blk_frozen Xi.out 1
      have Ul := blk_frozen Xi.out 2
      have Um := blk_frozen Xi.out 3
      have Un := blk_frozen Xi.out 4
      have GI := XL.out
      have GJ := XK.out
      have GK := Xy.out
      have GL := XV.out
      have Uo : w101.cell? ⟨Xl, 0, none⟩ = some (.int .i64 Xr) := (blk_cell Xe.out 0).trans rfl
      have Uq : w101.cell? ⟨Xl, 1, none⟩ = some (.slice none 0 0) := (blk_cell Xe.out 1).trans rfl
      have Ur : w101.cell? ⟨Xl, 2, none⟩ = some (.slice none 0 0) := (blk_cell Xe.out 2).trans rfl
      have Us := blk_frozen Xe.out 0
      have Ut := blk_frozen Xe.out 1
      have Uu := blk_frozen Xe.out 2
      go_wp2
      refine bodyPost_ret (results_ct rfl _ _ Xl 31 #[.int .i64 0, .slice none 0 0, .slice none 0 0] (0, 0) _ rfl (by (with_reducible repeat apply upF); refine blk_put (cs := #[.int .i64 0, .slice none 0 0, .slice none 0 0]) ?_ 2 _ rfl; (with_reducible repeat apply upF); refine blk_put (cs := #[.int .i64 0, .slice none 0 0, .slice none 0 0]) ?_ 1 _ rfl; (with_reducible repeat apply upF); refine blk_put (cs := #[.int .i64 Xr, .slice none 0 0, .slice none 0 0]) ?_ 0 _ rfl; exact upB Xe.out) Try.underlying31 rfl (by kernel_rfl)) rfl ?_
      exact ⟨_, _, by first | (simp only [Array.getD_eq_getD_getElem?, List.getElem?_toArray, List.getElem?_cons_succ, List.getElem?_cons_zero, Option.getD_some] <;> rfl) | rfl | (simp [errW_none, errW_some] <;> rfl) | (simp only [← hji103, ← hji112]; first | rfl | (simp [errW_none, errW_some] <;> rfl)) | (simp [*, errW_none, errW_some] <;> rfl), by first | exact Kd.R_nil _ _ _ _ _ | exact Kd.N_nil _ _ _ _ _ | exact Kd.V_nil _ _ _ _ _ | exact Kd.Q_nil _ _ _ _ _ | exact Kd.S_nil _ _ _ _ _, by first | exact Kd.R_nil _ _ _ _ _ | exact Kd.N_nil _ _ _ _ _ | exact Kd.V_nil _ _ _ _ _ | exact Kd.Q_nil _ _ _ _ _ | exact Kd.S_nil _ _ _ _ _, by repeat (first | (with_reducible first | exact HB.out | apply upS | refine below_set ?_ Xv.out | refine below_set ?_ Xw.out | refine below_set ?_ XN.out | refine below_set ?_ Ye.out) | exact HB.out)⟩
     clear T9
     try clear c1
     try clear p1
     try clear q1
     try clear Kn
     try clear c2
     try clear p2
     try clear q2
     try clear c3
     try clear c4
     try clear c5
     try clear q5
     try clear c6
     try clear p6
     try clear c7
     try clear c8
     try clear c9
     try clear KO
     try clear KP
     try clear D5
     try clear p13
     try clear q13
     try clear D7
     try clear p14
     try clear q14
     try clear Kz
     try clear T2
     try clear Jh
     try clear TQ
     try clear Vz
     try clear Qb
     try clear TR
     try clear Qc
     try clear TS
     try clear q22
     try clear Qd
     try clear Ko
     try clear Kp
     try clear UB
     try clear VA
     try clear VB
     try clear Kq
     try clear Kr
     try clear Ks
     try clear Kt
     try clear Ku
     try clear Kv
     try clear Kw
     try clear Kx
     try clear T4
     try clear TV
     try clear QX
     try clear QY
     try clear QZ
     try clear Q0
     try clear Q1
     try clear Q2
     try clear q55
     try clear Q3
     try clear T7
     try clear TX
     try clear KQ
     try clear KR
     try clear KS
     try clear KT
     try clear KU
     try clear p64
     try clear KV
     try clear T8
     try clear TY
     try clear KW
     try clear KX
     try clear KY
     try clear KZ
     try clear K0
     try clear K1
     try clear Q4
     try clear Q5
     try clear K2
     try clear K3
     try clear K4
     try clear K5
     try clear K6
     try clear K7
     try clear K8
     try clear K9
     try clear Na
     try clear Nb
     try clear Y8
     try clear Yw
     try clear Y9
     try clear VM
     try clear KA
     try clear KB
     try clear KC
     try clear KD
     try clear KE
     try clear Za
     try clear V3
     try clear KF
     try clear KG
     try clear KH
     try clear KI
     try clear KJ
     try clear KK
     try clear KL
     try clear KM
     try clear VG
     try clear VH
     try clear VI
     try clear VN
     try clear VO
     try clear VP
     try clear VQ
     try clear VR
     try clear VX
     try clear VY
     try clear VZ
     try clear Ue
     try clear Uf
     try clear Ug
     try clear Uh
     try clear Ui
     try clear YF
     try clear YG
     try clear YH
     try clear Uo
     try clear Uq
     try clear Ur
     try clear V4
     try clear V5
     try clear V6
     try clear V7
     try clear V8
     try clear Yz
     try clear YA
     try clear YB
     try clear Y0
     try clear Y1
     try clear Y2
     try clear Zd
     try clear Ze
     try clear Zf
     try clear Zg
     try clear Zh
     try clear Zn
     try clear Zo
     try clear Zp
     try clear Zq
     try clear Zr
     try clear Zx
     try clear Zy
     try clear Zz
     try clear ZA
     try clear ZB
     try clear ZH
     try clear ZI
     try clear ZJ
     try clear ZK
     try clear ZL
     try clear ZR
     try clear ZS
     try clear ZT
     try clear ZU
     try clear ZV
     try clear Z1
     try clear Z2
     try clear Z3
     try clear Z4
     try clear Z5
     try clear Vb
     try clear Vc
     try clear Vd
     try clear Vh
     try clear Vi
     try clear Vj
     try clear Vn
     try clear Vo
     try clear Vp
     try clear UC
     try clear UD
     try clear UE
     try clear UF
     try clear UG
     try clear UM
     try clear UN
     try clear UO
     try clear US
     try clear UT
     try clear UU
     try clear UY
     try clear UZ
     try clear U0
     try clear U1
     try clear U2
     try clear U8
     try clear U9
     try clear Ta
     try clear Te
     try clear Tf
     try clear Tg
     try clear Tk
     try clear Tl
     try clear Tm
     try clear Tn
     try clear To
     try clear Tu
     try clear Tv
     try clear Tw
     try clear TA
     try clear TB
     try clear TC
     try clear TD
     try clear TE
     try clear YU
     try clear YV
     try clear YW
     try clear VJ
     try clear VK
     try clear VL
     try clear VS
     try clear VT
     try clear VU
     try clear VV
     try clear VW
     try clear V0
     try clear V1
     try clear V2
     try clear Uj
     try clear Uk
     try clear Ul
     try clear Um
     try clear Un
     try clear YI
     try clear YJ
     try clear YK
     try clear Us
     try clear Ut
     try clear Uu
     try clear V9
     try clear Ua
     try clear Ub
     try clear Uc
     try clear Ud
     try clear YC
     try clear YD
     try clear YE
     try clear Y3
     try clear Y4
     try clear Y5
     try clear Zi
     try clear Zj
     try clear Zk
     try clear Zl
     try clear Zm
     try clear Zs
     try clear Zt
     try clear Zu
     try clear Zv
     try clear Zw
     try clear ZC
     try clear ZD
     try clear ZE
     try clear ZF
     try clear ZG
     try clear ZM
     try clear ZN
     try clear ZO
     try clear ZP
     try clear ZQ
     try clear ZW
     try clear ZX
     try clear ZY
     try clear ZZ
     try clear Z0
     try clear Z6
     try clear Z7
     try clear Z8
     try clear Z9
     try clear Va
     try clear Ve
     try clear Vf
     try clear Vg
     try clear Vk
     try clear Vl
     try clear Vm
     try clear Vq
     try clear Vr
     try clear Vs
     try clear UH
     try clear UI
     try clear UJ
     try clear UK
     try clear UL
     try clear UP
     try clear UQ
     try clear UR
     try clear UV
     try clear UW
     try clear UX
     try clear U3
     try clear U4
     try clear U5
     try clear U6
     try clear U7
     try clear Tb
     try clear Tc
     try clear Td
     try clear Th
     try clear Ti
     try clear Tj
     try clear Tp
     try clear Tq
     try clear Tr
     try clear Ts
     try clear Tt
     try clear Tx
     try clear Ty
     try clear Tz
     try clear TF
     try clear TG
     try clear TH
     try clear TI
     try clear TJ
     try clear YX
     try clear YY
     try clear YZ
     try clear XX
     try clear X9
     try clear Ya
     try clear Yb
     try clear Yc
     try clear XO
     try clear XY
     try clear XZ
     try clear X0
     try clear X1
     try clear Xj
     try clear Yp
     try clear p1
     try clear p13
     try clear p133
     try clear p138
     try clear p140
     try clear p141
     try clear p2
     try clear p6
     try clear q1
     try clear q13
     try clear q133
     try clear q138
     try clear q140
     try clear q141
     try clear q2
     try clear q22
     obtain ⟨kq, XM, X8, rfl, HA, HJ91, Xh, Xg, Xb, Xe, Xf, Xi, HB⟩ := hcut
     cases kq with
     | zero => exact absurd HA.out (by simp [section_Cut.j3])
     | succ kj91 =>
      have H := HA.out
      clear HA
      simp only [section_Cut.j3] at H
      by_cases TK : 0 ≤ Xa
      case neg =>
       rw [if_neg TK] at H
       exact absurd H (by simp)
      rw [if_pos TK] at H
      have GM : decide (0 ≤ Xa) = true := decide_eq_true TK
      clear TK
      by_cases TL : Xa < (Xm.length : Int)
      case neg =>
       rw [if_neg TL] at H
       exact absurd H (by simp)
      rw [if_pos TL] at H
      have GN : decide (Xa < (Xm.length : Int)) = true := decide_eq_true TL
      clear TL
      by_cases TM : Xs.length < 17592186044416
      case neg =>
       rw [if_neg TM] at H
       exact absurd H (by simp)
      rw [if_pos TM] at H
      have LMc127 := Aside0.mk TM
      clear TM
      obtain ⟨y145, hy145⟩ : ∃ y_ : List Int, y_ = (Xs ++ [Yk]) := ⟨_, rfl⟩
      replace H : (if Yk > 1 then (if Xq.length < 17592186044416 then (section_Cut.l1 kj91 l1 (l1.length : Int) (wrap64 (Xa + 1)) a0_0 Xp Xm (wrap64 (Xd + (wrap64 (XM * (rd Xm Xa))))) y145 (Xq ++ [wrap64 ((rd Xm Xa) * ((rd_T58 l1 Xa).f2.f2))])) else (none)) else (if Xq.length < 17592186044416 then (section_Cut.l1 kj91 l1 (l1.length : Int) (wrap64 (Xa + 1)) a0_0 Xp Xm (wrap64 (Xd + (wrap64 (XM * (rd Xm Xa))))) y145 (Xq ++ [rd Xm Xa])) else (none))) = some (r1, r2, r3, r4) := by first | (rw [hy145]; with_reducible exact H) | (have Uv := (Option.bind_some _ _).symm.trans H; rw [hy145]; with_reducible exact Uv) | (have Uv := (Option.bind_some _ _).symm.trans H; with_reducible exact Uv) | with_reducible exact H | (rw [hy145]; exact H) | exact H
      have Ny145 := Aside0.mk hy145
      clear hy145
      by_cases Vy : Yk > 1
      case neg =>
       rw [if_neg Vy] at H
       have Qa : decide (1 < Yk) = false := decide_eq_false Vy
       clear Vy
       by_cases TN : Xq.length < 17592186044416
       case neg =>
        rw [if_neg TN] at H
        exact absurd H (by simp)
       rw [if_pos TN] at H
       have LMc147 := Aside0.mk TN
       clear TN
       obtain ⟨y152, hy152⟩ : ∃ y_ : List Int, y_ = (Xq ++ [rd Xm Xa]) := ⟨_, rfl⟩
       replace H : (section_Cut.l1 kj91 l1 (l1.length : Int) (wrap64 (Xa + 1)) a0_0 Xp Xm (wrap64 (Xd + (wrap64 (XM * (rd Xm Xa))))) y145 y152) = some (r1, r2, r3, r4) := by first | (rw [hy152]; with_reducible exact H) | (have Uv := (Option.bind_some _ _).symm.trans H; rw [hy152]; with_reducible exact Uv) | (have Uv := (Option.bind_some _ _).symm.trans H; with_reducible exact Uv) | with_reducible exact H | (rw [hy152]; exact H) | exact H
       have Ny152 := Aside0.mk hy152
       clear hy152
       have H' := Aside0.mk H
       clear H
       try go_wp2
       have X3 := Aside0.mk (Kd.R_drew Xh.out)
       have X4 := Aside0.mk (Kd.R_drew Xg.out)
       have X5 := Aside0.mk (blk_drew Xb.out)
       have X6 := Aside0.mk (blk_drew Xe.out)
       have Yf := Aside0.mk (blk_drew Xf.out)
       have Yg := Aside0.mk (blk_drew Xi.out)
       have Yi := Aside0.mk (below_drew1 HB.out)
       clear Xh
       clear Xg
       clear Xb
       clear Xe
       clear Xf
       clear Xi
       clear HB
       have Xh := X3
       have Xg := X4
       have Xb := X5
       have Xe := X6
       have Xf := Yf
       have Xi := Yg
       have HB := Yi
       clear X3 X4 X5 X6 Yf Yg Yi
       have p144 : 0 ≤ (Xa : Int) := of_decide_eq_true (by first | (with_reducible assumption) | assumption)
       have q144 : Xa < (Xm.length : Int) := of_decide_eq_true (by first | (with_reducible assumption) | assumption)
       obtain ⟨ad144, e144, Yh⟩ := Kd.at_int YL.out Xa p144 q144
       have Yr := Yh
       cases e144
       replace Yh := (HB.out.cell (World.block_lt_of_cell? w _ Yh)).trans Yh
       replace p144 := eq_true p144
       replace q144 := eq_true q144
       refine start_ (n := 12) (S := fun w' => w'.cell? ⟨Xn, 0, none⟩ = some (.int .i64 Xd) ∧ w'.cell? ⟨Xn, 1, none⟩ = some (u138001) ∧ w'.cell? ⟨Xn, 2, none⟩ = some (u138002) ∧ w'.cell? ⟨Xk, 0, none⟩ = some (.int .i64 a0_0) ∧ w'.cell? ⟨Xk, 1, none⟩ = some (.slice (some ad140) Xp.length XG) ∧ w'.cell? ⟨Xk, 2, none⟩ = some (.slice (some ad144) Xm.length XH) ∧ w'.cell? (ad144.add (Xa).toNat) = some (.int .i64 (rd Xm Xa))) (ds := [11]) #[false, false, false, false, false, false, false, false, false, false, false, false] (by kernel_rfl) rfl rfl ⟨(blk_cell Xf.out 0).trans rfl, (blk_cell Xf.out 1).trans rfl, (blk_cell Xf.out 2).trans rfl, (blk_cell Xb.out 0).trans rfl, (blk_cell Xb.out 1).trans rfl, (blk_cell Xb.out 2).trans rfl, ((HB.out.cell (World.block_lt_of_cell? w _ Yr)).trans Yr)⟩ (fun hHeld => ?_); refine with_tabW section_Cut.tab26 section_Cut.bits26 (fun HT_ HW_ => ?_)
       generalize wc.drew = w148 at Xh Xg Xb Xe Xf Xi HB Yh hHeld ⊢
       refine pure_ (i := 0) (N := some 124) (v := ?_) (a' := ?_) #[true, false, false, false, false, false, false, false, false, false, false, false] rfl rfl (any_of HT_.out (by kernel_rfl)) (fun _ _ _ h => h) (Or.inl ⟨by rfl, ?_⟩) ?_ ?_
       rotate_left
       · intro w'; go_simp; with_reducible rfl
       rotate_left
       · simp only [Act.put, List.setIfInBounds_toArray, List.set_cons_zero, List.set_cons_succ, i64_w, i32_w]; rfl
       refine pure_ (i := 2) (N := some 126) (v := ?_) (a' := ?_) #[true, false, true, false, false, false, false, false, false, false, false, false] rfl rfl (any_of HT_.out (by kernel_rfl)) (fun _ _ _ h => h) (Or.inl ⟨by rfl, ?_⟩) ?_ ?_
       rotate_left
       · intro w'; go_simp; with_reducible rfl
       rotate_left
       · simp only [Act.put, List.setIfInBounds_toArray, List.set_cons_zero, List.set_cons_succ, i64_w, i32_w]; rfl
       refine pure_ (i := 3) (N := some 127) (v := ?_) (a' := ?_) #[true, false, true, true, false, false, false, false, false, false, false, false] rfl rfl (any_of HT_.out (by kernel_rfl)) (fun _ _ _ h => h) (Or.inl ⟨by rfl, ?_⟩) ?_ ?_
       rotate_left
       · intro w'; go_simp; with_reducible rfl
       rotate_left
       · simp only [Act.put, List.setIfInBounds_toArray, List.set_cons_zero, List.set_cons_succ, i64_w, i32_w]; rfl
       refine pure_ (i := 5) (N := some 129) (v := ?_) (a' := ?_) #[true, false, true, true, false, true, false, false, false, false, false, false] rfl rfl (any_of HT_.out (by kernel_rfl)) (fun _ _ _ h => h) (Or.inl ⟨by rfl, ?_⟩) ?_ ?_
       rotate_left
       · intro w'; go_simp; with_reducible rfl
       rotate_left
       · simp only [Act.put, List.setIfInBounds_toArray, List.set_cons_zero, List.set_cons_succ, i64_w, i32_w]; rfl
       refine take_ (i := 1) (N := some 125) (v := ?_) (a' := ?_) #[true, true, true, true, false, true, false, false, false, false, false, false] rfl rfl (take_ofW HT_.out HW_.out (by kernel_rfl)) (fun _ _ _ h => h) (Or.inl ⟨by rfl, ?_⟩) hHeld ?_ ?_
       rotate_left
       · rintro w' ⟨s0, s1, s2, s3, s4, s5, s6⟩
         go_simp
         with_reducible rfl
       rotate_left
       · simp only [Act.put, List.setIfInBounds_toArray, List.set_cons_zero, List.set_cons_succ, i64_w, i32_w]; rfl
       refine take_ (i := 4) (N := some 128) (v := ?_) (a' := ?_) #[true, true, true, true, true, true, false, false, false, false, false, false] rfl rfl (take_ofW HT_.out HW_.out (by kernel_rfl)) (fun _ _ _ h => h) (Or.inl ⟨by rfl, ?_⟩) hHeld ?_ ?_
       rotate_left
       · rintro w' ⟨s0, s1, s2, s3, s4, s5, s6⟩
         go_simp
         with_reducible rfl
       rotate_left
       · simp only [Act.put, List.setIfInBounds_toArray, List.set_cons_zero, List.set_cons_succ, i64_w, i32_w]; rfl
       refine pure_ (i := 6) (N := some 130) (v := ?_) (a' := ?_) #[true, true, true, true, true, true, true, false, false, false, false, false] rfl rfl (any_of HT_.out (by kernel_rfl)) (fun _ _ _ h => h) (Or.inl ⟨by rfl, ?_⟩) ?_ ?_
       rotate_left
       · intro w'; go_simp; with_reducible rfl
       rotate_left
       · simp only [Act.put, List.setIfInBounds_toArray, List.set_cons_zero, List.set_cons_succ, i64_w, i32_w]; rfl
       refine take_ (i := 7) (N := some 131) (v := ?_) (a' := ?_) #[true, true, true, true, true, true, true, true, false, false, false, false] rfl rfl (take_ofW HT_.out HW_.out (by kernel_rfl)) (fun _ _ _ h => h) (Or.inl ⟨by rfl, ?_⟩) hHeld ?_ ?_
       rotate_left
       · rintro w' ⟨s0, s1, s2, s3, s4, s5, s6⟩
         go_simp
         with_reducible rfl
       rotate_left
       · simp only [Act.put, List.setIfInBounds_toArray, List.set_cons_zero, List.set_cons_succ, i64_w, i32_w]; rfl
       refine pure_ (i := 8) (N := some 132) (v := ?_) (a' := ?_) #[true, true, true, true, true, true, true, true, true, false, false, false] rfl rfl (any_of HT_.out (by kernel_rfl)) (fun _ _ _ h => h) (Or.inl ⟨by rfl, ?_⟩) ?_ ?_
       rotate_left
       · intro w'; go_simp; with_reducible rfl
       rotate_left
       · simp only [Act.put, List.setIfInBounds_toArray, List.set_cons_zero, List.set_cons_succ, i64_w, i32_w]; rfl
       refine pure_ (i := 9) (N := some 133) (v := ?_) (a' := ?_) #[true, true, true, true, true, true, true, true, true, true, false, false] rfl rfl (any_of HT_.out (by kernel_rfl)) (fun _ _ _ h => h) (Or.inl ⟨by rfl, ?_⟩) ?_ ?_
       rotate_left
       · intro w'; go_simp; with_reducible rfl
       rotate_left
       · simp only [Act.put, List.setIfInBounds_toArray, List.set_cons_zero, List.set_cons_succ, i64_w, i32_w]; rfl
       refine pure_ (i := 10) (N := some 134) (v := ?_) (a' := ?_) #[true, true, true, true, true, true, true, true, true, true, true, false] rfl rfl (any_of HT_.out (by kernel_rfl)) (fun _ _ _ h => h) (Or.inl ⟨by rfl, ?_⟩) ?_ ?_
       rotate_left
       · intro w'; go_simp; with_reducible rfl
       rotate_left
       · simp only [Act.put, List.setIfInBounds_toArray, List.set_cons_zero, List.set_cons_succ, i64_w, i32_w]; rfl
       refine last_ (i := 11) (N := none) #[true, true, true, true, true, true, true, true, true, true, true, true] rfl rfl (one_of HT_.out (by kernel_rfl)) (by decide) (fun K hK => ?_)
       have hs149 : w148.cell? ⟨Xn, 0, none⟩ = some (.int .i64 Xd) := (blk_cell Xf.out 0).trans rfl
       have hfs149 := blk_frozen Xf.out 0
       have hns149_0 := XB.out
       have hns149_1 := Xy.out
       have hns149_3 := XF.out
       have hms149_0 := XU.out
       have hms149_1 := XV.out
       have hms149_3 := Xx.out
       refine skip_ (w1 := ?_) (by rfl) rfl ?_ ?_
       rotate_left
       · go_simp
         rfl
       refine hK.out _ _ ?_
       clear hK K
       refine done_ (done_of HT_.out (by kernel_rfl)) ?_
       have GO := XU.out
       have GP := XB.out
       have GQ := XV.out
       have GR := Xy.out
       have GS := Xx.out
       have GT := XF.out
       have Q7 : w148.cell? ⟨Xn, 0, none⟩ = some (.int .i64 Xd) := (blk_cell Xf.out 0).trans rfl
       have Q8 : w148.cell? ⟨Xn, 1, none⟩ = some (u138001) := (blk_cell Xf.out 1).trans rfl
       have Q9 : w148.cell? ⟨Xn, 2, none⟩ = some (u138002) := (blk_cell Xf.out 2).trans rfl
       have Da := blk_frozen Xf.out 0
       have Db := blk_frozen Xf.out 1
       have Dc := blk_frozen Xf.out 2
       try go_wp2_with (first | ((with_reducible refine gate_builtin (b := .append) (xs := #[.tmp 136, .tmp 138]) rfl ?_); (try (refine gate_guard (by rfl) ?_; dsimp only)); at_builtin; refine Kd.R_append (Kd.int .i64) (w0 := w) w.heap.size rfl (.tmp 136) (.tmp 138) 29 3 (.int .i64 0) 8 rfl Try.underlying29 info3 rfl (by decide) (by omega) u138001 Xs Yk [.int .i64 Yk] (fun k_ => some k_ ≠ (u138002 : Value).ownBlock) (fun _ => False) rfl (by first | (go_simp; done) | (go_simp; rfl)) ?aP (fun _ hk => hk.elim) ?aF ?aO ?aB ?aS ?aL ?_; (case aP => exact rfl); (case aB => exact (by repeat (first | (with_reducible first | exact HB.out | apply upS | refine below_set ?_ Xv.out | refine below_set ?_ Xw.out | refine below_set ?_ XN.out | refine below_set ?_ Ye.out) | exact HB.out))); (case aF => exact (fun k_ hk => Kd.fresh' (Kd.R_lt (by (with_reducible repeat apply upG); exact (Kd.R_mono (Kd.R_far (p := ⟨Xn, 0, none⟩) (Kd.R_types Xg.out Xf.out (by decide)) (fun _ hk => hk.2) (.int .i64 (wrap64 (Xd + (wrap64 (XM * (rd Xm Xa))))))) (fun _ h_ => h_.1)))) k_ hk)); (case aO => exact (by (with_reducible repeat apply upG); exact Kd.R_mono (Kd.R_far (p := ⟨Xn, 0, none⟩) (Kd.R_types Xh.out Xf.out (by decide)) (fun _ hk => hk.2) (.int .i64 (wrap64 (Xd + (wrap64 (XM * (rd Xm Xa))))))) (fun _ hk => hk.1))); (case aS => exact (below_size (by repeat (first | (with_reducible first | exact HB.out | apply upS | refine below_set ?_ Xv.out | refine below_set ?_ Xw.out | refine below_set ?_ XN.out | refine below_set ?_ Ye.out) | exact HB.out)))); (case aL => have := LMc127.out; omega); intro v146 w154 ho hb hg hat; rw [← Ny145.out] at ho; have X3 := Aside0.mk (Kd.R_after (ok := (fun _ => True)) (by (with_reducible repeat apply upG); exact Kd.R_mono (Kd.R_far (p := ⟨Xn, 0, none⟩) (Kd.R_types Xg.out Xf.out (by decide)) (fun _ hk => hk.2) (.int .i64 (wrap64 (Xd + (wrap64 (XM * (rd Xm Xa))))))) (fun _ hk => ⟨trivial, hk.1⟩)) hg hat); have X4 := Aside0.mk (blk_grown (g := Xk) (o := .cells #[.int .i64 a0_0, .slice (some ad140) Xp.length XG, .slice (some ad144) Xm.length XH] 31 (0, 0)) (by (with_reducible repeat apply upF); refine blk_far ?_ XB.out _; exact upB Xb.out) hg (Kd.R_ne Xh.out Xb.out (by decide))); have X5 := Aside0.mk (blk_grown (g := Xl) (o := .cells #[.int .i64 X8, .slice none 0 0, .slice none 0 0] 31 (0, 0)) (by (with_reducible repeat apply upF); refine blk_far ?_ Xy.out _; exact upB Xe.out) hg (Kd.R_ne Xh.out Xe.out (by decide))); have X6 := Aside0.mk (blk_grown (g := Xn) (o := .cells #[.int .i64 (wrap64 (Xd + (wrap64 (XM * (rd Xm Xa))))), u138001, u138002] 31 (0, 0)) (by (with_reducible repeat apply upF); refine blk_put (cs := #[.int .i64 Xd, u138001, u138002]) ?_ 0 _ rfl; exact upB Xf.out) hg (Kd.R_ne Xh.out Xf.out (by decide))); have Yf := Aside0.mk (blk_grown (g := Xc) (o := .cells #[.bool false, .int .i64 ((rd_T58 l1 Xa).f1), .int .i64 ((rd_T58 l1 Xa).f2.f0), .int .i64 ((rd_T58 l1 Xa).f2.f1), .int .i64 ((rd_T58 l1 Xa).f2.f2)] 58 (0, 0)) (by (with_reducible repeat apply upF); refine blk_far ?_ XF.out _; exact upB Xi.out) hg (Kd.R_ne Xh.out Xi.out (by decide))); have Yg := Aside0.mk (hb); have Yi := Aside0.mk (ho); clear Xg; clear Xb; clear Xe; clear Xf; clear Xi; clear HB; clear Xh; have Xg := X3; have Xb := X4; have Xe := X5; have Xf := X6; have Xi := Yf; have HB := Yg; have Yn := Yi; clear X3 X4 X5 X6 Yf Yg Yi; clear ho hb hg hat; obtain ⟨Ys, Yt, eo155⟩ := Kd.R_slice Yn.out; subst eo155; have Dd : w154.cell? ⟨Xn, 0, none⟩ = some (.int .i64 (wrap64 (Xd + (wrap64 (XM * (rd Xm Xa)))))) := (blk_cell Xf.out 0).trans rfl; have De : w154.cell? ⟨Xn, 1, none⟩ = some (u138001) := (blk_cell Xf.out 1).trans rfl; have Df : w154.cell? ⟨Xn, 2, none⟩ = some (u138002) := (blk_cell Xf.out 2).trans rfl; have Dg := blk_frozen Xf.out 0; have Dh := blk_frozen Xf.out 1; have Di := blk_frozen Xf.out 2; have GU := XK.out; have GV := XL.out; have GW := XC.out; have GX := XW.out; have Dj : w154.cell? ⟨Xk, 0, none⟩ = some (.int .i64 a0_0) := (blk_cell Xb.out 0).trans rfl; have Dk : w154.cell? ⟨Xk, 1, none⟩ = some (.slice (some ad140) Xp.length XG) := (blk_cell Xb.out 1).trans rfl; have Dl : w154.cell? ⟨Xk, 2, none⟩ = some (.slice (some ad144) Xm.length XH) := (blk_cell Xb.out 2).trans rfl; have Dm := blk_frozen Xb.out 0; have Do := blk_frozen Xb.out 1; have Dp := blk_frozen Xb.out 2; have p148 : 0 ≤ (Xa : Int) := of_decide_eq_true (by first | (with_reducible assumption) | assumption); have q148 : Xa < (Xm.length : Int) := of_decide_eq_true (by first | (with_reducible assumption) | assumption); obtain ⟨ad148, e148, Yd⟩ := Kd.at_int YL.out Xa p148 q148; obtain rfl : ad144 = ad148 := (by injection e148); have Yj : ad144.block ≠ Xn := Nat.ne_of_lt (Nat.lt_of_lt_of_le (by have := World.block_lt_of_cell? _ _ Yd; first | rwa [add_block] at this | exact this) TU.out); replace Yd := (HB.out.cell (World.block_lt_of_cell? w _ Yd)).trans Yd; replace Yd := (cell_far (p := ⟨Xn, 1, none⟩) (by first | (rw [add_block]; exact Yj) | (show (Addr.add _ _).block ≠ _; rw [add_block]; exact Yj) | exact Yj) (.slice Ys y145.length Yt)).trans Yd; clear Yj; replace p148 := eq_true p148; replace q148 := eq_true q148) | ((with_reducible refine gate_builtin (b := .append) (xs := #[.tmp 154, .tmp 156]) rfl ?_); (try (refine gate_guard (by rfl) ?_; dsimp only)); at_builtin; refine Kd.R_append (Kd.int .i64) (w0 := w) w.heap.size rfl (.tmp 154) (.tmp 156) 29 3 (.int .i64 0) 8 rfl Try.underlying29 info3 rfl (by decide) (by omega) u138002 Xq (rd Xm Xa) [.int .i64 (rd Xm Xa)] (fun k_ => some k_ ≠ (.slice Ys y145.length Yt : Value).ownBlock) (fun _ => False) rfl (by first | (go_simp; done) | (go_simp; rfl)) ?aP (fun _ hk => hk.elim) ?aF ?aO ?aB ?aS ?aL ?_; (case aP => exact rfl); (case aB => exact (by repeat (first | (with_reducible first | exact HB.out | apply upS | refine below_set ?_ Xv.out | refine below_set ?_ Xw.out | refine below_set ?_ XN.out | refine below_set ?_ Ye.out) | exact HB.out))); (case aF => exact (fun k_ hk => Kd.fresh' (Kd.R_lt (by (with_reducible repeat apply upG); exact (Kd.R_mono (Kd.R_far (p := ⟨Xn, 1, none⟩) (Kd.R_types Yn.out Xf.out (by decide)) (fun _ hk => hk.2) (.slice Ys y145.length Yt)) (fun _ h_ => h_.1)))) k_ hk)); (case aO => exact (by (with_reducible repeat apply upG); exact Kd.R_mono (Kd.R_far (p := ⟨Xn, 1, none⟩) (Kd.R_types Xg.out Xf.out (by decide)) (fun _ hk => hk.2) (.slice Ys y145.length Yt)) (fun _ hk => hk.1.2))); (case aS => exact (below_size (by repeat (first | (with_reducible first | exact HB.out | apply upS | refine below_set ?_ Xv.out | refine below_set ?_ Xw.out | refine below_set ?_ XN.out | refine below_set ?_ Ye.out) | exact HB.out)))); (case aL => have := LMc147.out; omega); intro v153 w160 ho hb hg hat; rw [← Ny152.out] at ho; have X3 := Aside0.mk (blk_grown (g := Xk) (o := .cells #[.int .i64 a0_0, .slice (some ad140) Xp.length XG, .slice (some ad144) Xm.length XH] 31 (0, 0)) (by (with_reducible repeat apply upF); refine blk_far ?_ XB.out _; exact upB Xb.out) hg (Kd.R_ne Xg.out Xb.out (by decide))); have X4 := Aside0.mk (blk_grown (g := Xl) (o := .cells #[.int .i64 X8, .slice none 0 0, .slice none 0 0] 31 (0, 0)) (by (with_reducible repeat apply upF); refine blk_far ?_ Xy.out _; exact upB Xe.out) hg (Kd.R_ne Xg.out Xe.out (by decide))); have X5 := Aside0.mk (blk_grown (g := Xn) (o := .cells #[.int .i64 (wrap64 (Xd + (wrap64 (XM * (rd Xm Xa))))), .slice Ys y145.length Yt, u138002] 31 (0, 0)) (by (with_reducible repeat apply upF); refine blk_put (cs := #[.int .i64 (wrap64 (Xd + (wrap64 (XM * (rd Xm Xa))))), u138001, u138002]) ?_ 1 _ rfl; exact upB Xf.out) hg (Kd.R_ne Xg.out Xf.out (by decide))); have X6 := Aside0.mk (blk_grown (g := Xc) (o := .cells #[.bool false, .int .i64 ((rd_T58 l1 Xa).f1), .int .i64 ((rd_T58 l1 Xa).f2.f0), .int .i64 ((rd_T58 l1 Xa).f2.f1), .int .i64 ((rd_T58 l1 Xa).f2.f2)] 58 (0, 0)) (by (with_reducible repeat apply upF); refine blk_far ?_ XF.out _; exact upB Xi.out) hg (Kd.R_ne Xg.out Xi.out (by decide))); have Yf := Aside0.mk (Kd.R_after (ok := (fun _ => True)) (by (with_reducible repeat apply upG); exact Kd.R_mono (Kd.R_far (p := ⟨Xn, 1, none⟩) (Kd.R_types Yn.out Xf.out (by decide)) (fun _ hk => hk.2) (.slice Ys y145.length Yt)) (fun _ hk => ⟨trivial, hk.1⟩)) hg hat); have Yg := Aside0.mk (hb); have Yi := Aside0.mk (ho); clear Xb; clear Xe; clear Xf; clear Xi; clear Yn; clear HB; clear Xg; have Xb := X3; have Xe := X4; have Xf := X5; have Xi := X6; have Yn := Yf; have HB := Yg; have TZ := Yi; clear X3 X4 X5 X6 Yf Yg Yi; clear ho hb hg hat; obtain ⟨Uw, Ux, eo161⟩ := Kd.R_slice TZ.out; subst eo161; have Dq : w160.cell? ⟨Xn, 0, none⟩ = some (.int .i64 (wrap64 (Xd + (wrap64 (XM * (rd Xm Xa)))))) := (blk_cell Xf.out 0).trans rfl; have Dr : w160.cell? ⟨Xn, 1, none⟩ = some (.slice Ys y145.length Yt) := (blk_cell Xf.out 1).trans rfl; have Ds : w160.cell? ⟨Xn, 2, none⟩ = some (u138002) := (blk_cell Xf.out 2).trans rfl; have Dt := blk_frozen Xf.out 0; have Du := blk_frozen Xf.out 1; have Dv := blk_frozen Xf.out 2))
       go_roundg kj91
       case measure => have := HJ2.out; have := HK2.out; have := HK3.out; have := HJ91.out; omega
       case rel => exact ⟨(wrap64 (Xa + 1)), (X8), (wrap64 (Xd + (wrap64 (XM * (rd Xm Xa))))), (y145), (y152), (.slice Ys y145.length Yt), (.slice Uw y152.length Ux), (by first | rfl | (simp; done) | (simp [*]; done)), H', ⟨by have := HJ2.out; have := HK2.out; have := HK3.out; have := HJ91.out; omega⟩, ⟨by (with_reducible repeat apply upG); exact Kd.R_mono (Kd.R_far (p := ⟨Xn, 2, none⟩) (Kd.R_types Yn.out Xf.out (by decide)) (fun _ hk => hk.2) (.slice Uw y152.length Ux)) (fun _ hk => hk.1.2)⟩, ⟨by (with_reducible repeat apply upG); exact Kd.R_mono (Kd.R_far (p := ⟨Xn, 2, none⟩) (Kd.R_types TZ.out Xf.out (by decide)) (fun _ hk => hk.2) (.slice Uw y152.length Ux)) (fun _ hk => hk.1)⟩, ⟨by (with_reducible repeat apply upF); refine blk_far ?_ XB.out _; exact upB Xb.out⟩, ⟨by (with_reducible repeat apply upF); refine blk_far ?_ Xy.out _; exact upB Xe.out⟩, ⟨by (with_reducible repeat apply upF); refine blk_put (cs := #[.int .i64 (wrap64 (Xd + (wrap64 (XM * (rd Xm Xa))))), .slice Ys y145.length Yt, u138002]) ?_ 2 _ rfl; exact upB Xf.out⟩, ⟨by repeat (first | (with_reducible first | exact HB.out | apply upS | refine below_set ?_ Xv.out | refine below_set ?_ Xw.out | refine below_set ?_ XN.out | refine below_set ?_ Ye.out) | exact HB.out)⟩⟩
      rw [if_pos Vy] at H
      have Qa : decide (1 < Yk) = true := decide_eq_true Vy
      clear Vy
      by_cases TO : Xq.length < 17592186044416
      case neg =>
       rw [if_neg TO] at H
       exact absurd H (by simp)
      rw [if_pos TO] at H
      have LMc129 := Aside0.mk TO
      clear TO
      obtain ⟨y149, hy149⟩ : ∃ y_ : List Int, y_ = (Xq ++ [wrap64 ((rd Xm Xa) * ((rd_T58 l1 Xa).f2.f2))]) := ⟨_, rfl⟩
      replace H : (section_Cut.l1 kj91 l1 (l1.length : Int) (wrap64 (Xa + 1)) a0_0 Xp Xm (wrap64 (Xd + (wrap64 (XM * (rd Xm Xa))))) y145 y149) = some (r1, r2, r3, r4) := by first | (rw [hy149]; with_reducible exact H) | (have Uv := (Option.bind_some _ _).symm.trans H; rw [hy149]; with_reducible exact Uv) | (have Uv := (Option.bind_some _ _).symm.trans H; with_reducible exact Uv) | with_reducible exact H | (rw [hy149]; exact H) | exact H
      have Ny149 := Aside0.mk hy149
      clear hy149
      have H' := Aside0.mk H
      clear H
      try go_wp2
      have X3 := Aside0.mk (Kd.R_drew Xh.out)
      have X4 := Aside0.mk (Kd.R_drew Xg.out)
      have X5 := Aside0.mk (blk_drew Xb.out)
      have X6 := Aside0.mk (blk_drew Xe.out)
      have Yf := Aside0.mk (blk_drew Xf.out)
      have Yg := Aside0.mk (blk_drew Xi.out)
      have Yi := Aside0.mk (below_drew1 HB.out)
      clear Xh
      clear Xg
      clear Xb
      clear Xe
      clear Xf
      clear Xi
      clear HB
      have Xh := X3
      have Xg := X4
      have Xb := X5
      have Xe := X6
      have Xf := Yf
      have Xi := Yg
      have HB := Yi
      clear X3 X4 X5 X6 Yf Yg Yi
      have p144 : 0 ≤ (Xa : Int) := of_decide_eq_true (by first | (with_reducible assumption) | assumption)
      have q144 : Xa < (Xm.length : Int) := of_decide_eq_true (by first | (with_reducible assumption) | assumption)
      obtain ⟨ad144, e144, Yh⟩ := Kd.at_int YL.out Xa p144 q144
      have Yr := Yh
      cases e144
      replace Yh := (HB.out.cell (World.block_lt_of_cell? w _ Yh)).trans Yh
      replace p144 := eq_true p144
      replace q144 := eq_true q144
      refine start_ (n := 12) (S := fun w' => w'.cell? ⟨Xn, 0, none⟩ = some (.int .i64 Xd) ∧ w'.cell? ⟨Xn, 1, none⟩ = some (u138001) ∧ w'.cell? ⟨Xn, 2, none⟩ = some (u138002) ∧ w'.cell? ⟨Xk, 0, none⟩ = some (.int .i64 a0_0) ∧ w'.cell? ⟨Xk, 1, none⟩ = some (.slice (some ad140) Xp.length XG) ∧ w'.cell? ⟨Xk, 2, none⟩ = some (.slice (some ad144) Xm.length XH) ∧ w'.cell? (ad144.add (Xa).toNat) = some (.int .i64 (rd Xm Xa))) (ds := [11]) #[false, false, false, false, false, false, false, false, false, false, false, false] (by kernel_rfl) rfl rfl ⟨(blk_cell Xf.out 0).trans rfl, (blk_cell Xf.out 1).trans rfl, (blk_cell Xf.out 2).trans rfl, (blk_cell Xb.out 0).trans rfl, (blk_cell Xb.out 1).trans rfl, (blk_cell Xb.out 2).trans rfl, ((HB.out.cell (World.block_lt_of_cell? w _ Yr)).trans Yr)⟩ (fun hHeld => ?_); refine with_tabW section_Cut.tab26 section_Cut.bits26 (fun HT_ HW_ => ?_)
      generalize wc.drew = w130 at Xh Xg Xb Xe Xf Xi HB Yh hHeld ⊢
      refine pure_ (i := 0) (N := some 124) (v := ?_) (a' := ?_) #[true, false, false, false, false, false, false, false, false, false, false, false] rfl rfl (any_of HT_.out (by kernel_rfl)) (fun _ _ _ h => h) (Or.inl ⟨by rfl, ?_⟩) ?_ ?_
      rotate_left
      · intro w'; go_simp; with_reducible rfl
      rotate_left
      · simp only [Act.put, List.setIfInBounds_toArray, List.set_cons_zero, List.set_cons_succ, i64_w, i32_w]; rfl
      refine pure_ (i := 2) (N := some 126) (v := ?_) (a' := ?_) #[true, false, true, false, false, false, false, false, false, false, false, false] rfl rfl (any_of HT_.out (by kernel_rfl)) (fun _ _ _ h => h) (Or.inl ⟨by rfl, ?_⟩) ?_ ?_
      rotate_left
      · intro w'; go_simp; with_reducible rfl
      rotate_left
      · simp only [Act.put, List.setIfInBounds_toArray, List.set_cons_zero, List.set_cons_succ, i64_w, i32_w]; rfl
      refine pure_ (i := 3) (N := some 127) (v := ?_) (a' := ?_) #[true, false, true, true, false, false, false, false, false, false, false, false] rfl rfl (any_of HT_.out (by kernel_rfl)) (fun _ _ _ h => h) (Or.inl ⟨by rfl, ?_⟩) ?_ ?_
      rotate_left
      · intro w'; go_simp; with_reducible rfl
      rotate_left
      · simp only [Act.put, List.setIfInBounds_toArray, List.set_cons_zero, List.set_cons_succ, i64_w, i32_w]; rfl
      refine pure_ (i := 5) (N := some 129) (v := ?_) (a' := ?_) #[true, false, true, true, false, true, false, false, false, false, false, false] rfl rfl (any_of HT_.out (by kernel_rfl)) (fun _ _ _ h => h) (Or.inl ⟨by rfl, ?_⟩) ?_ ?_
      rotate_left
      · intro w'; go_simp; with_reducible rfl
      rotate_left
      · simp only [Act.put, List.setIfInBounds_toArray, List.set_cons_zero, List.set_cons_succ, i64_w, i32_w]; rfl
      refine take_ (i := 1) (N := some 125) (v := ?_) (a' := ?_) #[true, true, true, true, false, true, false, false, false, false, false, false] rfl rfl (take_ofW HT_.out HW_.out (by kernel_rfl)) (fun _ _ _ h => h) (Or.inl ⟨by rfl, ?_⟩) hHeld ?_ ?_
      rotate_left
      · rintro w' ⟨s0, s1, s2, s3, s4, s5, s6⟩
        go_simp
        with_reducible rfl
      rotate_left
      · simp only [Act.put, List.setIfInBounds_toArray, List.set_cons_zero, List.set_cons_succ, i64_w, i32_w]; rfl
      refine take_ (i := 4) (N := some 128) (v := ?_) (a' := ?_) #[true, true, true, true, true, true, false, false, false, false, false, false] rfl rfl (take_ofW HT_.out HW_.out (by kernel_rfl)) (fun _ _ _ h => h) (Or.inl ⟨by rfl, ?_⟩) hHeld ?_ ?_
      rotate_left
      · rintro w' ⟨s0, s1, s2, s3, s4, s5, s6⟩
        go_simp
        with_reducible rfl
      rotate_left
      · simp only [Act.put, List.setIfInBounds_toArray, List.set_cons_zero, List.set_cons_succ, i64_w, i32_w]; rfl
      refine pure_ (i := 6) (N := some 130) (v := ?_) (a' := ?_) #[true, true, true, true, true, true, true, false, false, false, false, false] rfl rfl (any_of HT_.out (by kernel_rfl)) (fun _ _ _ h => h) (Or.inl ⟨by rfl, ?_⟩) ?_ ?_
      rotate_left
      · intro w'; go_simp; with_reducible rfl
      rotate_left
      · simp only [Act.put, List.setIfInBounds_toArray, List.set_cons_zero, List.set_cons_succ, i64_w, i32_w]; rfl
      refine take_ (i := 7) (N := some 131) (v := ?_) (a' := ?_) #[true, true, true, true, true, true, true, true, false, false, false, false] rfl rfl (take_ofW HT_.out HW_.out (by kernel_rfl)) (fun _ _ _ h => h) (Or.inl ⟨by rfl, ?_⟩) hHeld ?_ ?_
      rotate_left
      · rintro w' ⟨s0, s1, s2, s3, s4, s5, s6⟩
        go_simp
        with_reducible rfl
      rotate_left
      · simp only [Act.put, List.setIfInBounds_toArray, List.set_cons_zero, List.set_cons_succ, i64_w, i32_w]; rfl
      refine pure_ (i := 8) (N := some 132) (v := ?_) (a' := ?_) #[true, true, true, true, true, true, true, true, true, false, false, false] rfl rfl (any_of HT_.out (by kernel_rfl)) (fun _ _ _ h => h) (Or.inl ⟨by rfl, ?_⟩) ?_ ?_
      rotate_left
      · intro w'; go_simp; with_reducible rfl
      rotate_left
      · simp only [Act.put, List.setIfInBounds_toArray, List.set_cons_zero, List.set_cons_succ, i64_w, i32_w]; rfl
      refine pure_ (i := 9) (N := some 133) (v := ?_) (a' := ?_) #[true, true, true, true, true, true, true, true, true, true, false, false] rfl rfl (any_of HT_.out (by kernel_rfl)) (fun _ _ _ h => h) (Or.inl ⟨by rfl, ?_⟩) ?_ ?_
      rotate_left
      · intro w'; go_simp; with_reducible rfl
      rotate_left
      · simp only [Act.put, List.setIfInBounds_toArray, List.set_cons_zero, List.set_cons_succ, i64_w, i32_w]; rfl
      refine pure_ (i := 10) (N := some 134) (v := ?_) (a' := ?_) #[true, true, true, true, true, true, true, true, true, true, true, false] rfl rfl (any_of HT_.out (by kernel_rfl)) (fun _ _ _ h => h) (Or.inl ⟨by rfl, ?_⟩) ?_ ?_
      rotate_left
      · intro w'; go_simp; with_reducible rfl
      rotate_left
      · simp only [Act.put, List.setIfInBounds_toArray, List.set_cons_zero, List.set_cons_succ, i64_w, i32_w]; rfl
      refine last_ (i := 11) (N := none) #[true, true, true, true, true, true, true, true, true, true, true, true] rfl rfl (one_of HT_.out (by kernel_rfl)) (by decide) (fun K hK => ?_)
      have hs131 : w130.cell? ⟨Xn, 0, none⟩ = some (.int .i64 Xd) := (blk_cell Xf.out 0).trans rfl
      have hfs131 := blk_frozen Xf.out 0
      have hns131_0 := XB.out
      have hns131_1 := Xy.out
      have hns131_3 := XF.out
      have hms131_0 := XU.out
      have hms131_1 := XV.out
      have hms131_3 := Xx.out
      refine skip_ (w1 := ?_) (by rfl) rfl ?_ ?_
      rotate_left
      · go_simp
        rfl
      refine hK.out _ _ ?_
      clear hK K
      refine done_ (done_of HT_.out (by kernel_rfl)) ?_
      have GY := XU.out
      have GZ := XB.out
      have G0 := XV.out
      have G1 := Xy.out
      have G2 := Xx.out
      have G3 := XF.out
      have Dw : w130.cell? ⟨Xn, 0, none⟩ = some (.int .i64 Xd) := (blk_cell Xf.out 0).trans rfl
      have Dx : w130.cell? ⟨Xn, 1, none⟩ = some (u138001) := (blk_cell Xf.out 1).trans rfl
      have Dy : w130.cell? ⟨Xn, 2, none⟩ = some (u138002) := (blk_cell Xf.out 2).trans rfl
      have Dz := blk_frozen Xf.out 0
      have DA := blk_frozen Xf.out 1
      have DB := blk_frozen Xf.out 2
      try go_wp2_with (first | ((with_reducible refine gate_builtin (b := .append) (xs := #[.tmp 136, .tmp 138]) rfl ?_); (try (refine gate_guard (by rfl) ?_; dsimp only)); at_builtin; refine Kd.R_append (Kd.int .i64) (w0 := w) w.heap.size rfl (.tmp 136) (.tmp 138) 29 3 (.int .i64 0) 8 rfl Try.underlying29 info3 rfl (by decide) (by omega) u138001 Xs Yk [.int .i64 Yk] (fun k_ => some k_ ≠ (u138002 : Value).ownBlock) (fun _ => False) rfl (by first | (go_simp; done) | (go_simp; rfl)) ?aP (fun _ hk => hk.elim) ?aF ?aO ?aB ?aS ?aL ?_; (case aP => exact rfl); (case aB => exact (by repeat (first | (with_reducible first | exact HB.out | apply upS | refine below_set ?_ Xv.out | refine below_set ?_ Xw.out | refine below_set ?_ XN.out | refine below_set ?_ Ye.out) | exact HB.out))); (case aF => exact (fun k_ hk => Kd.fresh' (Kd.R_lt (by (with_reducible repeat apply upG); exact (Kd.R_mono (Kd.R_far (p := ⟨Xn, 0, none⟩) (Kd.R_types Xg.out Xf.out (by decide)) (fun _ hk => hk.2) (.int .i64 (wrap64 (Xd + (wrap64 (XM * (rd Xm Xa))))))) (fun _ h_ => h_.1)))) k_ hk)); (case aO => exact (by (with_reducible repeat apply upG); exact Kd.R_mono (Kd.R_far (p := ⟨Xn, 0, none⟩) (Kd.R_types Xh.out Xf.out (by decide)) (fun _ hk => hk.2) (.int .i64 (wrap64 (Xd + (wrap64 (XM * (rd Xm Xa))))))) (fun _ hk => hk.1))); (case aS => exact (below_size (by repeat (first | (with_reducible first | exact HB.out | apply upS | refine below_set ?_ Xv.out | refine below_set ?_ Xw.out | refine below_set ?_ XN.out | refine below_set ?_ Ye.out) | exact HB.out)))); (case aL => have := LMc127.out; omega); intro v146 w136 ho hb hg hat; rw [← Ny145.out] at ho; have X3 := Aside0.mk (Kd.R_after (ok := (fun _ => True)) (by (with_reducible repeat apply upG); exact Kd.R_mono (Kd.R_far (p := ⟨Xn, 0, none⟩) (Kd.R_types Xg.out Xf.out (by decide)) (fun _ hk => hk.2) (.int .i64 (wrap64 (Xd + (wrap64 (XM * (rd Xm Xa))))))) (fun _ hk => ⟨trivial, hk.1⟩)) hg hat); have X4 := Aside0.mk (blk_grown (g := Xk) (o := .cells #[.int .i64 a0_0, .slice (some ad140) Xp.length XG, .slice (some ad144) Xm.length XH] 31 (0, 0)) (by (with_reducible repeat apply upF); refine blk_far ?_ XB.out _; exact upB Xb.out) hg (Kd.R_ne Xh.out Xb.out (by decide))); have X5 := Aside0.mk (blk_grown (g := Xl) (o := .cells #[.int .i64 X8, .slice none 0 0, .slice none 0 0] 31 (0, 0)) (by (with_reducible repeat apply upF); refine blk_far ?_ Xy.out _; exact upB Xe.out) hg (Kd.R_ne Xh.out Xe.out (by decide))); have X6 := Aside0.mk (blk_grown (g := Xn) (o := .cells #[.int .i64 (wrap64 (Xd + (wrap64 (XM * (rd Xm Xa))))), u138001, u138002] 31 (0, 0)) (by (with_reducible repeat apply upF); refine blk_put (cs := #[.int .i64 Xd, u138001, u138002]) ?_ 0 _ rfl; exact upB Xf.out) hg (Kd.R_ne Xh.out Xf.out (by decide))); have Yf := Aside0.mk (blk_grown (g := Xc) (o := .cells #[.bool false, .int .i64 ((rd_T58 l1 Xa).f1), .int .i64 ((rd_T58 l1 Xa).f2.f0), .int .i64 ((rd_T58 l1 Xa).f2.f1), .int .i64 ((rd_T58 l1 Xa).f2.f2)] 58 (0, 0)) (by (with_reducible repeat apply upF); refine blk_far ?_ XF.out _; exact upB Xi.out) hg (Kd.R_ne Xh.out Xi.out (by decide))); have Yg := Aside0.mk (hb); have Yi := Aside0.mk (ho); clear Xg; clear Xb; clear Xe; clear Xf; clear Xi; clear HB; clear Xh; have Xg := X3; have Xb := X4; have Xe := X5; have Xf := X6; have Xi := Yf; have HB := Yg; have Yn := Yi; clear X3 X4 X5 X6 Yf Yg Yi; clear ho hb hg hat; obtain ⟨Yu, Yv, eo137⟩ := Kd.R_slice Yn.out; subst eo137; have DC : w136.cell? ⟨Xn, 0, none⟩ = some (.int .i64 (wrap64 (Xd + (wrap64 (XM * (rd Xm Xa)))))) := (blk_cell Xf.out 0).trans rfl; have DD : w136.cell? ⟨Xn, 1, none⟩ = some (u138001) := (blk_cell Xf.out 1).trans rfl; have DE : w136.cell? ⟨Xn, 2, none⟩ = some (u138002) := (blk_cell Xf.out 2).trans rfl; have DF := blk_frozen Xf.out 0; have DG := blk_frozen Xf.out 1; have DH := blk_frozen Xf.out 2; have G4 := XK.out; have G5 := XL.out; have G6 := XC.out; have G7 := XW.out; have DI : w136.cell? ⟨Xk, 0, none⟩ = some (.int .i64 a0_0) := (blk_cell Xb.out 0).trans rfl; have DJ : w136.cell? ⟨Xk, 1, none⟩ = some (.slice (some ad140) Xp.length XG) := (blk_cell Xb.out 1).trans rfl; have DK : w136.cell? ⟨Xk, 2, none⟩ = some (.slice (some ad144) Xm.length XH) := (blk_cell Xb.out 2).trans rfl; have DL := blk_frozen Xb.out 0; have DM := blk_frozen Xb.out 1; have DN := blk_frozen Xb.out 2; have p148 : 0 ≤ (Xa : Int) := of_decide_eq_true (by first | (with_reducible assumption) | assumption); have q148 : Xa < (Xm.length : Int) := of_decide_eq_true (by first | (with_reducible assumption) | assumption); obtain ⟨ad148, e148, Yd⟩ := Kd.at_int YL.out Xa p148 q148; obtain rfl : ad144 = ad148 := (by injection e148); have Yj : ad144.block ≠ Xn := Nat.ne_of_lt (Nat.lt_of_lt_of_le (by have := World.block_lt_of_cell? _ _ Yd; first | rwa [add_block] at this | exact this) TU.out); replace Yd := (HB.out.cell (World.block_lt_of_cell? w _ Yd)).trans Yd; replace Yd := (cell_far (p := ⟨Xn, 1, none⟩) (by first | (rw [add_block]; exact Yj) | (show (Addr.add _ _).block ≠ _; rw [add_block]; exact Yj) | exact Yj) (.slice Yu y145.length Yv)).trans Yd; clear Yj; replace p148 := eq_true p148; replace q148 := eq_true q148; have G8 := X2.out; have G9 := Xt.out; have DO : w136.cell? ⟨Xc, 0, none⟩ = some (.bool false) := (blk_cell Xi.out 0).trans rfl; have DP : w136.cell? ⟨Xc, 1, none⟩ = some (.int .i64 ((rd_T58 l1 Xa).f1)) := (blk_cell Xi.out 1).trans rfl; have DQ : w136.cell? ⟨Xc, 2, none⟩ = some (.int .i64 ((rd_T58 l1 Xa).f2.f0)) := (blk_cell Xi.out 2).trans rfl; have DR : w136.cell? ⟨Xc, 3, none⟩ = some (.int .i64 ((rd_T58 l1 Xa).f2.f1)) := (blk_cell Xi.out 3).trans rfl; have DS : w136.cell? ⟨Xc, 4, none⟩ = some (.int .i64 ((rd_T58 l1 Xa).f2.f2)) := (blk_cell Xi.out 4).trans rfl; have DT := blk_frozen Xi.out 0; have DU := blk_frozen Xi.out 1; have DV := blk_frozen Xi.out 2; have DW := blk_frozen Xi.out 3; have DX := blk_frozen Xi.out 4) | ((with_reducible refine gate_builtin (b := .append) (xs := #[.tmp 154, .tmp 156]) rfl ?_); (try (refine gate_guard (by rfl) ?_; dsimp only)); at_builtin; refine Kd.R_append (Kd.int .i64) (w0 := w) w.heap.size rfl (.tmp 154) (.tmp 156) 29 3 (.int .i64 0) 8 rfl Try.underlying29 info3 rfl (by decide) (by omega) u138002 Xq (wrap64 ((rd Xm Xa) * ((rd_T58 l1 Xa).f2.f2))) [.int .i64 (wrap64 ((rd Xm Xa) * ((rd_T58 l1 Xa).f2.f2)))] (fun k_ => some k_ ≠ (.slice Yu y145.length Yv : Value).ownBlock) (fun _ => False) rfl (by first | (go_simp; done) | (go_simp; rfl)) ?aP (fun _ hk => hk.elim) ?aF ?aO ?aB ?aS ?aL ?_; (case aP => exact rfl); (case aB => exact (by repeat (first | (with_reducible first | exact HB.out | apply upS | refine below_set ?_ Xv.out | refine below_set ?_ Xw.out | refine below_set ?_ XN.out | refine below_set ?_ Ye.out) | exact HB.out))); (case aF => exact (fun k_ hk => Kd.fresh' (Kd.R_lt (by (with_reducible repeat apply upG); exact (Kd.R_mono (Kd.R_far (p := ⟨Xn, 1, none⟩) (Kd.R_types Yn.out Xf.out (by decide)) (fun _ hk => hk.2) (.slice Yu y145.length Yv)) (fun _ h_ => h_.1)))) k_ hk)); (case aO => exact (by (with_reducible repeat apply upG); exact Kd.R_mono (Kd.R_far (p := ⟨Xn, 1, none⟩) (Kd.R_types Xg.out Xf.out (by decide)) (fun _ hk => hk.2) (.slice Yu y145.length Yv)) (fun _ hk => hk.1.2))); (case aS => exact (below_size (by repeat (first | (with_reducible first | exact HB.out | apply upS | refine below_set ?_ Xv.out | refine below_set ?_ Xw.out | refine below_set ?_ XN.out | refine below_set ?_ Ye.out) | exact HB.out)))); (case aL => have := LMc129.out; omega); intro v150 w144 ho hb hg hat; rw [← Ny149.out] at ho; have X3 := Aside0.mk (blk_grown (g := Xk) (o := .cells #[.int .i64 a0_0, .slice (some ad140) Xp.length XG, .slice (some ad144) Xm.length XH] 31 (0, 0)) (by (with_reducible repeat apply upF); refine blk_far ?_ XB.out _; exact upB Xb.out) hg (Kd.R_ne Xg.out Xb.out (by decide))); have X4 := Aside0.mk (blk_grown (g := Xl) (o := .cells #[.int .i64 X8, .slice none 0 0, .slice none 0 0] 31 (0, 0)) (by (with_reducible repeat apply upF); refine blk_far ?_ Xy.out _; exact upB Xe.out) hg (Kd.R_ne Xg.out Xe.out (by decide))); have X5 := Aside0.mk (blk_grown (g := Xn) (o := .cells #[.int .i64 (wrap64 (Xd + (wrap64 (XM * (rd Xm Xa))))), .slice Yu y145.length Yv, u138002] 31 (0, 0)) (by (with_reducible repeat apply upF); refine blk_put (cs := #[.int .i64 (wrap64 (Xd + (wrap64 (XM * (rd Xm Xa))))), u138001, u138002]) ?_ 1 _ rfl; exact upB Xf.out) hg (Kd.R_ne Xg.out Xf.out (by decide))); have X6 := Aside0.mk (blk_grown (g := Xc) (o := .cells #[.bool false, .int .i64 ((rd_T58 l1 Xa).f1), .int .i64 ((rd_T58 l1 Xa).f2.f0), .int .i64 ((rd_T58 l1 Xa).f2.f1), .int .i64 ((rd_T58 l1 Xa).f2.f2)] 58 (0, 0)) (by (with_reducible repeat apply upF); refine blk_far ?_ XF.out _; exact upB Xi.out) hg (Kd.R_ne Xg.out Xi.out (by decide))); have Yf := Aside0.mk (Kd.R_after (ok := (fun _ => True)) (by (with_reducible repeat apply upG); exact Kd.R_mono (Kd.R_far (p := ⟨Xn, 1, none⟩) (Kd.R_types Yn.out Xf.out (by decide)) (fun _ hk => hk.2) (.slice Yu y145.length Yv)) (fun _ hk => ⟨trivial, hk.1⟩)) hg hat); have Yg := Aside0.mk (hb); have Yi := Aside0.mk (ho); clear Xb; clear Xe; clear Xf; clear Xi; clear Yn; clear HB; clear Xg; have Xb := X3; have Xe := X4; have Xf := X5; have Xi := X6; have Yn := Yf; have HB := Yg; have T0 := Yi; clear X3 X4 X5 X6 Yf Yg Yi; clear ho hb hg hat; obtain ⟨Uy, Uz, eo145⟩ := Kd.R_slice T0.out; subst eo145; have DY : w144.cell? ⟨Xn, 0, none⟩ = some (.int .i64 (wrap64 (Xd + (wrap64 (XM * (rd Xm Xa)))))) := (blk_cell Xf.out 0).trans rfl; have DZ : w144.cell? ⟨Xn, 1, none⟩ = some (.slice Yu y145.length Yv) := (blk_cell Xf.out 1).trans rfl; have D0 : w144.cell? ⟨Xn, 2, none⟩ = some (u138002) := (blk_cell Xf.out 2).trans rfl; have D1 := blk_frozen Xf.out 0; have D2 := blk_frozen Xf.out 1; have D3 := blk_frozen Xf.out 2))
      go_roundg kj91
      case measure => have := HJ2.out; have := HK2.out; have := HK3.out; have := HJ91.out; omega
      case rel => exact ⟨(wrap64 (Xa + 1)), (X8), (wrap64 (Xd + (wrap64 (XM * (rd Xm Xa))))), (y145), (y149), (.slice Yu y145.length Yv), (.slice Uy y149.length Uz), (by first | rfl | (simp; done) | (simp [*]; done)), H', ⟨by have := HJ2.out; have := HK2.out; have := HK3.out; have := HJ91.out; omega⟩, ⟨by (with_reducible repeat apply upG); exact Kd.R_mono (Kd.R_far (p := ⟨Xn, 2, none⟩) (Kd.R_types Yn.out Xf.out (by decide)) (fun _ hk => hk.2) (.slice Uy y149.length Uz)) (fun _ hk => hk.1.2)⟩, ⟨by (with_reducible repeat apply upG); exact Kd.R_mono (Kd.R_far (p := ⟨Xn, 2, none⟩) (Kd.R_types T0.out Xf.out (by decide)) (fun _ hk => hk.2) (.slice Uy y149.length Uz)) (fun _ hk => hk.1)⟩, ⟨by (with_reducible repeat apply upF); refine blk_far ?_ XB.out _; exact upB Xb.out⟩, ⟨by (with_reducible repeat apply upF); refine blk_far ?_ Xy.out _; exact upB Xe.out⟩, ⟨by (with_reducible repeat apply upF); refine blk_put (cs := #[.int .i64 (wrap64 (Xd + (wrap64 (XM * (rd Xm Xa))))), .slice Yu y145.length Yv, u138002]) ?_ 2 _ rfl; exact upB Xf.out⟩, ⟨by repeat (first | (with_reducible first | exact HB.out | apply upS | refine below_set ?_ Xv.out | refine below_set ?_ Xw.out | refine below_set ?_ XN.out | refine below_set ?_ Ye.out) | exact HB.out)⟩⟩

end Go.Proofs.Yticjlkommabcjaa.PS
