-- Printed by wip/qprint.py of this repository, over the kit's print, out of the translation. Not trusted: Lean checks it.
import Derived.Test.YticjlkommabcjaaPSx0
import Derived.Test.YticjlkommabcjaaPSx1
import Derived.Test.YticjlkommabcjaaPSx11
import Derived.Test.YticjlkommabcjaaPSx13
import Derived.Test.YticjlkommabcjaaPSx14
namespace Go.Proofs.Yticjlkommabcjaa.PS
open Go.RowKit Go.Proofs.YticjlkommabcjaaW.PrintWords Go.Proofs.YticjlkommabcjaaW.PrintLast Go.Proofs.YticjlkommabcjaaW.PrintMore
attribute [local go_sem] max2_int min2_int max_two min_two max_three min_three max_four min_four   -- for this text's walks alone
set_option linter.unusedVariables false
set_option linter.unusedSimpArgs false
set_option maxRecDepth 100000

/-! ### quadratref06_Cut: function 16 -/
set_option maxHeartbeats 8000000 in
set_option maxRecDepth 100000 in
theorem quadratref06_Cut.calls (k : Nat) (a0_0 : Int) (A0_1 : Option Addr) (c0_1 : Nat) (l0_1 : List Int) (A0_2 : Option Addr) (c0_2 : Nat) (l0_2 : List Int) (A1 : Option Addr) (c1 : Nat) (l1 : List (S58)) (r1 : Int) (r2 : List Int) (r3 : List Int) (r4 : Int) (w : World) (hr0_1 : Kd.C (Kd.int .i64) w A0_1 l0_1.length l0_1) (hc0_1 : l0_1.length ≤ c0_1) (hr0_2 : Kd.C (Kd.int .i64) w A0_2 l0_2.length l0_2) (hc0_2 : l0_2.length ≤ c0_2) (hr1 : Kd.C k58 w A1 l1.length l1) (hc1 : l1.length ≤ c1) (h : quadratref06_Cut.f k a0_0 l0_1 l0_2 l1 = some (r1, r2, r3, r4)) :
    Calls Try.prog 16 #[.agg #[.int .i64 a0_0, .slice A0_1 l0_1.length c0_1, .slice A0_2 l0_2.length c0_2], .slice A1 l1.length c1] w fun e w' => ∃ v1_ v2_ : Value, e = .returned (.tuple #[.agg #[.int .i64 r1, v1_, v2_], .int .i64 r4]) ∧ Kd.R (Kd.int .i64) 3 w' w.heap.size (fun k_ => some k_ ≠ (v2_ : Value).ownBlock) v1_ r2 ∧ Kd.R (Kd.int .i64) 3 w' w.heap.size (fun k_ => some k_ ≠ (v1_ : Value).ownBlock) v2_ r3 ∧ Below w.heap.size w w' := by
  have hu31 := Try.underlying31
  have hu23 := Try.underlying23
  have HR0_1 := Aside0.mk hr0_1
  have HC0_1 := Aside0.mk hc0_1
  clear hr0_1 hc0_1
  have HR0_2 := Aside0.mk hr0_2
  have HC0_2 := Aside0.mk hc0_2
  clear hr0_2 hc0_2
  have HR1 := Aside0.mk hr1
  have HC1 := Aside0.mk hc1
  clear hr1 hc1
  have HB := Aside0.mk (Below.refl w.heap.size w)
  have H : ((quadratref06_Valid.f k a0_0 l0_1 l0_2).bind fun t245 => (if t245 = true then (quadratref06_Cut.j0 k l1 ((l1.length : Int) != (l0_1.length : Int)) a0_0 l0_1 l0_2) else (quadratref06_Cut.j0 k l1 true a0_0 l0_1 l0_2))) = some (r1, r2, r3, r4) := h
  clear h
  have HC3 := Aside0.mk H
  clear H
  go_enter Try.func16, Try.ntmps16
  go_upto_region 1 with (first | ((with_reducible refine gate_dst (N := 2) rfl ?_); (try (refine gate_guard (by rfl) ?_; dsimp only)); refine box_event ?hg (N := 2) ?hd (cs := #[.int .i64 a0_0, .slice A0_1 l0_1.length c0_1, .slice A0_2 l0_2.length c0_2]) (t := 31) ?hr ?_; (case hd => rfl); (case hg => rfl); (case hr => first | (go_simp; done) | (go_simp; rfl)); intro gb243 hg w4 hbox hb; have n0_ := Aside0.mk (below_step (by repeat (first | (with_reducible first | exact HB.out | apply below_alloc | apply pw_below_drewN | apply below_drew1) | exact HB.out)) hb); have n1_ := Aside0.mk (hbox); have n2_ := Aside0.mk ((by rw [hg]; exact (below_size (by repeat (first | (with_reducible first | exact HB.out | apply below_alloc | apply pw_below_drewN | apply below_drew1) | exact HB.out))) : w.heap.size ≤ gb243)); have n3_ := Aside0.mk ((by rw [hg]; exact (below_size (by repeat (first | (with_reducible first | exact HB.out | apply below_alloc | apply pw_below_drewN | apply below_drew1) | exact HB.out))) : w.heap.size ≤ gb243)); clear HB; have HB := n0_; have BK243 := n1_; have GW243 := n2_; have GE243 := n3_; clear n0_ n1_ n2_ n3_; clear hb hbox hg) | ((with_reducible refine gate_dst (N := 4) rfl ?_); (try (refine gate_guard (by rfl) ?_; dsimp only)); refine box_event ?hg (N := 4) ?hd (cs := #[.int .i64 0, .slice none 0 0, .slice none 0 0]) (t := 31) ?hr ?_; (case hd => rfl); (case hg => rfl); (case hr => first | (go_simp; done) | (go_simp; rfl)); intro gb244 hg w5 hbox hb; have n0_ := Aside0.mk (blk_below (g := gb243) (o := .cells #[.int .i64 a0_0, .slice A0_1 l0_1.length c0_1, .slice A0_2 l0_2.length c0_2] 31 (0, 0)) (by (with_reducible repeat first | apply blk_drewN | apply blk_drew | apply blk_alloc); exact BK243.out) hb); have n1_ := Aside0.mk (below_step (by repeat (first | (with_reducible first | exact HB.out | apply below_alloc | apply pw_below_drewN | apply below_drew1 | refine below_set ?_ GE243.out) | exact HB.out)) hb); have n2_ := Aside0.mk (hbox); have n3_ := Aside0.mk ((by rw [hg]; exact (below_size (by repeat (first | (with_reducible first | exact HB.out | apply below_alloc | apply pw_below_drewN | apply below_drew1 | refine below_set ?_ GE243.out) | exact HB.out))) : w.heap.size ≤ gb244)); have n4_ := Aside0.mk ((by rw [hg]; exact (below_size (by repeat (first | (with_reducible first | exact HB.out | apply below_alloc | apply pw_below_drewN | apply below_drew1 | refine below_set ?_ GE243.out) | exact HB.out))) : w.heap.size ≤ gb244)); have n5_ := Aside0.mk ((by rw [hg]; exact Nat.ne_of_lt (blk_lt (g := gb243) (o := .cells #[.int .i64 a0_0, .slice A0_1 l0_1.length c0_1, .slice A0_2 l0_2.length c0_2] 31 (0, 0)) (by (with_reducible repeat first | apply blk_drewN | apply blk_drew | apply blk_alloc); exact BK243.out)) : gb243 ≠ gb244)); have n6_ := Aside0.mk ((by rw [hg]; exact Nat.ne_of_gt (blk_lt (g := gb243) (o := .cells #[.int .i64 a0_0, .slice A0_1 l0_1.length c0_1, .slice A0_2 l0_2.length c0_2] 31 (0, 0)) (by (with_reducible repeat first | apply blk_drewN | apply blk_drew | apply blk_alloc); exact BK243.out)) : gb244 ≠ gb243)); clear BK243; clear HB; have BK243 := n0_; have HB := n1_; have BK244 := n2_; have GW244 := n3_; have GE244 := n4_; have NB243_244 := n5_; have NB244_243 := n6_; clear n0_ n1_ n2_ n3_ n4_ n5_ n6_; clear hb hbox hg))
  (try simp only [Act.put, List.setIfInBounds_toArray, List.set_cons_zero, List.set_cons_succ])
  go_cut [24] (fun v24 wc => ∃ (kq : Nat) (x24_2 : Bool), v24 = .bool x24_2 ∧ Aside0 (quadratref06_Cut.j0 kq l1 x24_2 a0_0 l0_1 l0_2 = some (r1, r2, r3, r4)) ∧ Aside0 (kq ≤ k) ∧ Aside0 (wc.heap[gb243]? = some (.cells #[.int .i64 a0_0, (.slice A0_1 l0_1.length c0_1), (.slice A0_2 l0_2.length c0_2)] 31 (0, 0))) ∧ Aside0 (wc.heap[gb244]? = some (.cells #[.int .i64 0, (.slice none 0 0), (.slice none 0 0)] 31 (0, 0))) ∧ Aside0 (Below w.heap.size w wc))
  case first =>
   have H := HC3.out
   clear HC3
   replace H := Option.bind_eq_some_iff.mp H
   obtain ⟨t245, A60, H⟩ := H
   replace H : (if t245 = true then (quadratref06_Cut.j0 k l1 ((l1.length : Int) != (l0_1.length : Int)) a0_0 l0_1 l0_2) else (quadratref06_Cut.j0 k l1 true a0_0 l0_1 l0_2)) = some (r1, r2, r3, r4) := H
   have A6 := Aside0.mk A60
   clear A60
   by_cases c7 : t245 = true
   case neg =>
    replace c7 := Bool.eq_false_iff.mpr c7
    subst c7
    have H1 : (quadratref06_Cut.j0 k l1 true a0_0 l0_1 l0_2) = some (r1, r2, r3, r4) := by rw [if_neg (show ¬ (false = true) by decide)] at H; exact H
    clear H
    have H := H1
    clear H1
    have H' := Aside0.mk H
    clear H
    have hnb12 := NB243_244.out
    have hnc12 := NB244_243.out
    have hcz13_0 : w5.cell? ⟨gb243, 0, none⟩ = some (.int .i64 a0_0) := (blk_cell BK243.out 0).trans rfl
    have hcz13_1 : w5.cell? ⟨gb243, 1, none⟩ = some (.slice A0_1 l0_1.length c0_1) := (blk_cell BK243.out 1).trans rfl
    have hcz13_2 : w5.cell? ⟨gb243, 2, none⟩ = some (.slice A0_2 l0_2.length c0_2) := (blk_cell BK243.out 2).trans rfl
    have hfz13_0 := blk_frozen BK243.out 0
    have hfz13_1 := blk_frozen BK243.out 1
    have hfz13_2 := blk_frozen BK243.out 2
    go_wp2_with (first | ((with_reducible refine gate_callee (f := 24) rfl ?_); refine goesL_ (some 15) rfl rfl Try.func24 (by kernel_rfl) rfl #[.agg #[.int .i64 a0_0, .slice A0_1 l0_1.length c0_1, .slice A0_2 l0_2.length c0_2]] rfl (by (try simp only [List.map_toArray, List.map_cons, List.map_nil]); first | done | rfl | (simp only [List.length_drop, List.length_take]; rfl)) ?_; (with_reducible refine (quadratref06_Valid.calls k a0_0 _ _ l0_1 _ _ l0_2 false _ ?side1 ?side2 ?side3 ?side4 A6.out).mono ?_); (case side1 => repeat (first | exact (Kd.C_below HR0_1.out HB.out) | (with_reducible refine Kd.C_alloc ?_ _) | (with_reducible refine Kd.C_drewN ?_ _) | (with_reducible refine Kd.C_drew ?_))); (case side2 => exact HC0_1.out); (case side3 => repeat (first | exact (Kd.C_below HR0_2.out HB.out) | (with_reducible refine Kd.C_alloc ?_ _) | (with_reducible refine Kd.C_drewN ?_ _) | (with_reducible refine Kd.C_drew ?_))); (case side4 => exact HC0_2.out); rintro e w14 ⟨rfl, hb⟩; refine ⟨_, rfl, ?_⟩; have n0_ := Aside0.mk (blk_below (g := gb243) (o := .cells #[.int .i64 a0_0, .slice A0_1 l0_1.length c0_1, .slice A0_2 l0_2.length c0_2] 31 (0, 0)) (by (with_reducible repeat first | apply blk_drewN | apply blk_drew | apply blk_alloc); exact BK243.out) hb); have n1_ := Aside0.mk (blk_below (g := gb244) (o := .cells #[.int .i64 0, .slice none 0 0, .slice none 0 0] 31 (0, 0)) (by (with_reducible repeat first | apply blk_drewN | apply blk_drew | apply blk_alloc); exact BK244.out) hb); have n2_ := Aside0.mk (below_step (by repeat (first | (with_reducible first | exact HB.out | apply below_alloc | apply pw_below_drewN | apply below_drew1 | refine below_set ?_ GE243.out | refine below_set ?_ GE244.out) | exact HB.out)) hb); clear BK243; clear BK244; clear HB; have BK243 := n0_; have BK244 := n1_; have HB := n2_; clear n0_ n1_ n2_; (try clear hb); (try clear hb2); (try clear hk); (try clear hi)))
    go_meet
    case rel => exact ⟨_, (true), (by first | rfl | (simp; done) | (simp [*]; done)), H', ⟨by first | omega | exact Nat.le_refl _⟩, ⟨by (with_reducible repeat first | apply blk_drewN | apply blk_drew | apply blk_alloc); exact BK243.out⟩, ⟨by (with_reducible repeat first | apply blk_drewN | apply blk_drew | apply blk_alloc); exact BK244.out⟩, ⟨by repeat (first | (with_reducible first | exact HB.out | apply below_alloc | apply pw_below_drewN | apply below_drew1 | refine below_set ?_ GE243.out | refine below_set ?_ GE244.out) | exact HB.out)⟩⟩
   subst c7
   have H1 : (quadratref06_Cut.j0 k l1 ((l1.length : Int) != (l0_1.length : Int)) a0_0 l0_1 l0_2) = some (r1, r2, r3, r4) := by rw [if_pos rfl] at H; exact H
   clear H
   have H := H1
   clear H1
   have H' := Aside0.mk H
   clear H
   have hnb8 := NB243_244.out
   have hnc8 := NB244_243.out
   have hcz9_0 : w5.cell? ⟨gb243, 0, none⟩ = some (.int .i64 a0_0) := (blk_cell BK243.out 0).trans rfl
   have hcz9_1 : w5.cell? ⟨gb243, 1, none⟩ = some (.slice A0_1 l0_1.length c0_1) := (blk_cell BK243.out 1).trans rfl
   have hcz9_2 : w5.cell? ⟨gb243, 2, none⟩ = some (.slice A0_2 l0_2.length c0_2) := (blk_cell BK243.out 2).trans rfl
   have hfz9_0 := blk_frozen BK243.out 0
   have hfz9_1 := blk_frozen BK243.out 1
   have hfz9_2 := blk_frozen BK243.out 2
   go_wp2_with (first | ((with_reducible refine gate_callee (f := 24) rfl ?_); refine goesL_ (some 15) rfl rfl Try.func24 (by kernel_rfl) rfl #[.agg #[.int .i64 a0_0, .slice A0_1 l0_1.length c0_1, .slice A0_2 l0_2.length c0_2]] rfl (by (try simp only [List.map_toArray, List.map_cons, List.map_nil]); first | done | rfl | (simp only [List.length_drop, List.length_take]; rfl)) ?_; (with_reducible refine (quadratref06_Valid.calls k a0_0 _ _ l0_1 _ _ l0_2 true _ ?side1 ?side2 ?side3 ?side4 A6.out).mono ?_); (case side1 => repeat (first | exact (Kd.C_below HR0_1.out HB.out) | (with_reducible refine Kd.C_alloc ?_ _) | (with_reducible refine Kd.C_drewN ?_ _) | (with_reducible refine Kd.C_drew ?_))); (case side2 => exact HC0_1.out); (case side3 => repeat (first | exact (Kd.C_below HR0_2.out HB.out) | (with_reducible refine Kd.C_alloc ?_ _) | (with_reducible refine Kd.C_drewN ?_ _) | (with_reducible refine Kd.C_drew ?_))); (case side4 => exact HC0_2.out); rintro e w10 ⟨rfl, hb⟩; refine ⟨_, rfl, ?_⟩; have n0_ := Aside0.mk (blk_below (g := gb243) (o := .cells #[.int .i64 a0_0, .slice A0_1 l0_1.length c0_1, .slice A0_2 l0_2.length c0_2] 31 (0, 0)) (by (with_reducible repeat first | apply blk_drewN | apply blk_drew | apply blk_alloc); exact BK243.out) hb); have n1_ := Aside0.mk (blk_below (g := gb244) (o := .cells #[.int .i64 0, .slice none 0 0, .slice none 0 0] 31 (0, 0)) (by (with_reducible repeat first | apply blk_drewN | apply blk_drew | apply blk_alloc); exact BK244.out) hb); have n2_ := Aside0.mk (below_step (by repeat (first | (with_reducible first | exact HB.out | apply below_alloc | apply pw_below_drewN | apply below_drew1 | refine below_set ?_ GE243.out | refine below_set ?_ GE244.out) | exact HB.out)) hb); clear BK243; clear BK244; clear HB; have BK243 := n0_; have BK244 := n1_; have HB := n2_; clear n0_ n1_ n2_; (try clear hb); (try clear hb2); (try clear hk); (try clear hi); have hcz11_0 : w10.cell? ⟨gb243, 0, none⟩ = some (.int .i64 a0_0) := (blk_cell BK243.out 0).trans rfl; have hcz11_1 : w10.cell? ⟨gb243, 1, none⟩ = some (.slice A0_1 l0_1.length c0_1) := (blk_cell BK243.out 1).trans rfl; have hcz11_2 : w10.cell? ⟨gb243, 2, none⟩ = some (.slice A0_2 l0_2.length c0_2) := (blk_cell BK243.out 2).trans rfl; have hfz11_0 := blk_frozen BK243.out 0; have hfz11_1 := blk_frozen BK243.out 1; have hfz11_2 := blk_frozen BK243.out 2))
   go_meet
   case rel => exact ⟨_, (((l1.length : Int) != (l0_1.length : Int))), (by first | rfl | (simp; done) | (simp [*]; done)), H', ⟨by first | omega | exact Nat.le_refl _⟩, ⟨by (with_reducible repeat first | apply blk_drewN | apply blk_drew | apply blk_alloc); exact BK243.out⟩, ⟨by (with_reducible repeat first | apply blk_drewN | apply blk_drew | apply blk_alloc); exact BK244.out⟩, ⟨by repeat (first | (with_reducible first | exact HB.out | apply below_alloc | apply pw_below_drewN | apply below_drew1 | refine below_set ?_ GE243.out | refine below_set ?_ GE244.out) | exact HB.out)⟩⟩
  clear HC3
  try clear c1
  try clear c2
  try clear p2
  try clear c7
  try clear c8
  try clear c12
  try clear hcz11_0
  try clear hcz11_1
  try clear hcz11_2
  try clear hcz13_0
  try clear hcz13_1
  try clear hcz13_2
  try clear hcz9_0
  try clear hcz9_1
  try clear hcz9_2
  try clear hfz11_0
  try clear hfz11_1
  try clear hfz11_2
  try clear hfz13_0
  try clear hfz13_1
  try clear hfz13_2
  try clear hfz9_0
  try clear hfz9_1
  try clear hfz9_2
  obtain ⟨kq, x24_2, rfl, HA, HJ2, BK243, BK244, HB⟩ := hcut
  cases kq with
  | zero => exact absurd HA.out (by simp [quadratref06_Cut.j0])
  | succ kj2 =>
   have H := HA.out
   clear HA
   simp only [quadratref06_Cut.j0] at H
   by_cases c15 : x24_2 = true
   case pos =>
    subst c15
    have H1 : (some (0, ([] : List Int), ([] : List Int), 2)) = some (r1, r2, r3, r4) := by rw [if_pos rfl] at H; exact H
    clear H
    have H := H1
    clear H1
    simp only [Option.some.injEq, Prod.mk.injEq] at H
    obtain ⟨rfl, rfl, rfl, rfl⟩ := H
    have hnb16 := NB244_243.out
    have hnc16 := NB243_244.out
    have hcz17_0 : wc.cell? ⟨gb244, 0, none⟩ = some (.int .i64 0) := (blk_cell BK244.out 0).trans rfl
    have hcz17_1 : wc.cell? ⟨gb244, 1, none⟩ = some (.slice none 0 0) := (blk_cell BK244.out 1).trans rfl
    have hcz17_2 : wc.cell? ⟨gb244, 2, none⟩ = some (.slice none 0 0) := (blk_cell BK244.out 2).trans rfl
    have hfz17_0 := blk_frozen BK244.out 0
    have hfz17_1 := blk_frozen BK244.out 1
    have hfz17_2 := blk_frozen BK244.out 2
    go_wp2
    refine bodyPost_ret (results_ct rfl _ _ gb244 31 #[.int .i64 0, .slice none 0 0, .slice none 0 0] (0, 0) _ rfl (by (with_reducible repeat first | apply blk_drewN | apply blk_drew | apply blk_alloc); refine blk_put (cs := #[.int .i64 0, .slice none 0 0, .slice none 0 0]) ?_ 2 _ rfl; (with_reducible repeat first | apply blk_drewN | apply blk_drew | apply blk_alloc); refine blk_put (cs := #[.int .i64 0, .slice none 0 0, .slice none 0 0]) ?_ 1 _ rfl; (with_reducible repeat first | apply blk_drewN | apply blk_drew | apply blk_alloc); refine blk_put (cs := #[.int .i64 0, .slice none 0 0, .slice none 0 0]) ?_ 0 _ rfl; (with_reducible repeat first | apply blk_drewN | apply blk_drew | apply blk_alloc); exact BK244.out) Try.underlying31 rfl (by kernel_rfl)) rfl ?_
    exact ⟨_, _, by first | (simp only [Array.getD_eq_getD_getElem?, List.getElem?_toArray, List.getElem?_cons_succ, List.getElem?_cons_zero, Option.getD_some] <;> rfl) | rfl | (simp [errW_none, errW_some] <;> rfl) | (simp [*, errW_none, errW_some] <;> rfl), by first | exact Kd.R_nil _ _ _ _ _ | exact Kd.N_nil _ _ _ _ _ | exact Kd.V_nil _ _ _ _ _ | exact Kd.Q_nil _ _ _ _ _ | exact Kd.S_nil _ _ _ _ _, by first | exact Kd.R_nil _ _ _ _ _ | exact Kd.N_nil _ _ _ _ _ | exact Kd.V_nil _ _ _ _ _ | exact Kd.Q_nil _ _ _ _ _ | exact Kd.S_nil _ _ _ _ _, by repeat (first | (with_reducible first | exact HB.out | apply below_alloc | apply pw_below_drewN | apply below_drew1 | refine below_set ?_ GE243.out | refine below_set ?_ GE244.out) | exact HB.out)⟩
   replace c15 := Bool.eq_false_iff.mpr c15
   subst c15
   have H1 : (quadratref06_Cut.l0 kj2 l1 0 a0_0 l0_1 l0_2) = some (r1, r2, r3, r4) := by rw [if_neg (show ¬ (false = true) by decide)] at H; exact H
   clear H
   have H := H1
   clear H1
   have H' := Aside0.mk H
   clear H
   go_wp2
   go_loopg [6] kj2 (fun kq v6 w' => ∃ (x6_2 : Int) (x245000_2 : Int), v6 = .int .i64 x6_2 ∧ Aside0 (quadratref06_Cut.l0 kq l1 x6_2 a0_0 l0_1 l0_2 = some (r1, r2, r3, r4)) ∧ Aside0 (kq ≤ kj2) ∧ Aside0 (w'.heap[gb243]? = some (.cells #[.int .i64 a0_0, (.slice A0_1 l0_1.length c0_1), (.slice A0_2 l0_2.length c0_2)] 31 (0, 0))) ∧ Aside0 (w'.heap[gb244]? = some (.cells #[.int .i64 x245000_2, (.slice none 0 0), (.slice none 0 0)] 31 (0, 0))) ∧ Aside0 (Below w.heap.size w w'))
   case atStart => exact ⟨(0), (0), (by first | rfl | (simp; done) | (simp [*]; done)), H', ⟨Nat.le_refl _⟩, ⟨by (with_reducible repeat first | apply blk_drewN | apply blk_drew | apply blk_alloc); exact BK243.out⟩, ⟨by (with_reducible repeat first | apply blk_drewN | apply blk_drew | apply blk_alloc); exact BK244.out⟩, ⟨by repeat (first | (with_reducible first | exact HB.out | apply below_alloc | apply pw_below_drewN | apply below_drew1 | refine below_set ?_ GE243.out | refine below_set ?_ GE244.out) | exact HB.out)⟩⟩
   clear H'
   try clear c1
   try clear c2
   try clear p2
   try clear c7
   try clear c8
   try clear c12
   try clear c15
   try clear c16
   try clear hcz11_0
   try clear hcz11_1
   try clear hcz11_2
   try clear hcz13_0
   try clear hcz13_1
   try clear hcz13_2
   try clear hcz17_0
   try clear hcz17_1
   try clear hcz17_2
   try clear hcz9_0
   try clear hcz9_1
   try clear hcz9_2
   try clear hfz11_0
   try clear hfz11_1
   try clear hfz11_2
   try clear hfz13_0
   try clear hfz13_1
   try clear hfz13_2
   try clear hfz17_0
   try clear hfz17_1
   try clear hfz17_2
   try clear hfz9_0
   try clear hfz9_1
   try clear hfz9_2
   try clear p2
   obtain ⟨x6_2, x245000_2, rfl, HA, HK2, BK243, BK244, HB⟩ := hrel
   cases gk with
   | zero => exact absurd HA.out (by simp [quadratref06_Cut.l0])
   | succ k2 =>
    have H := HA.out
    clear HA
    simp only [quadratref06_Cut.l0] at H
    by_cases c18 : x6_2 < (l1.length : Int)
    case pos =>
     rw [if_pos c18] at H
     have c18b0 : decide (x6_2 < (l1.length : Int)) = true := decide_eq_true c18
     clear c18
     by_cases c19 : 0 ≤ x6_2
     case neg =>
      rw [if_neg c19] at H
      exact absurd H (by simp)
     rw [if_pos c19] at H
     have c19b0 : decide (0 ≤ x6_2) = true := decide_eq_true c19
     clear c19
     obtain ⟨bq20, hbq20⟩ : ∃ b_ : Bool, b_ = ((rd_T58 l1 x6_2).f0) := ⟨_, rfl⟩
     replace H : (if (bq20 = true) then (quadratref06_Cut.l0 k2 l1 (wrap64 (x6_2 + 1)) a0_0 l0_1 l0_2) else ((quadratref06_IsTriple.f ((rd_T58 l1 x6_2).f2.f0) ((rd_T58 l1 x6_2).f2.f1) ((rd_T58 l1 x6_2).f2.f2)).bind fun t248 => (if t248 = true then (quadratref06_Cut.l0 k2 l1 (wrap64 (x6_2 + 1)) a0_0 l0_1 l0_2) else (some (0, ([] : List Int), ([] : List Int), 2))))) = some (r1, r2, r3, r4) := by rw [← hbq20] at H; exact H
     have Nbq20 := Aside0.mk hbq20
     clear hbq20
     by_cases c21 : (bq20 = true)
     case pos =>
      subst c21
      have H1 : (quadratref06_Cut.l0 k2 l1 (wrap64 (x6_2 + 1)) a0_0 l0_1 l0_2) = some (r1, r2, r3, r4) := by rw [if_pos rfl] at H; exact H
      clear H
      have H := H1
      clear H1
      have H' := Aside0.mk H
      clear H
      have p246 : 0 ≤ (x6_2 : Int) := of_decide_eq_true (by first | (with_reducible assumption) | assumption)
      have q246 : x6_2 < (l1.length : Int) := of_decide_eq_true (by first | (with_reducible assumption) | assumption)
      obtain ⟨ad246, e246, hx246_0, hx246_1, hx246_2, hx246_3, hx246_4⟩ := at_T58 HR1.out x6_2 p246 q246
      (try rw [← Nbq20.out] at hx246_0)
      cases e246
      replace hx246_0 := (HB.out.cell (World.block_lt_of_cell? w _ hx246_0)).trans hx246_0
      replace hx246_1 := (HB.out.cell (World.block_lt_of_cell? w _ hx246_1)).trans hx246_1
      replace hx246_2 := (HB.out.cell (World.block_lt_of_cell? w _ hx246_2)).trans hx246_2
      replace hx246_3 := (HB.out.cell (World.block_lt_of_cell? w _ hx246_3)).trans hx246_3
      replace hx246_4 := (HB.out.cell (World.block_lt_of_cell? w _ hx246_4)).trans hx246_4
      replace p246 := eq_true p246
      replace q246 := eq_true q246
      go_wp2
      go_roundg k2
      case measure => have := HJ2.out; have := HK2.out; omega
      case rel => exact ⟨(wrap64 (x6_2 + 1)), (x245000_2), (by first | rfl | (simp; done) | (simp [*]; done)), H', ⟨by have := HJ2.out; have := HK2.out; omega⟩, ⟨by (with_reducible repeat first | apply blk_drewN | apply blk_drew | apply blk_alloc); exact BK243.out⟩, ⟨by (with_reducible repeat first | apply blk_drewN | apply blk_drew | apply blk_alloc); exact BK244.out⟩, ⟨by repeat (first | (with_reducible first | exact HB.out | apply below_alloc | apply pw_below_drewN | apply below_drew1 | refine below_set ?_ GE243.out | refine below_set ?_ GE244.out) | exact HB.out)⟩⟩
     replace c21 := Bool.eq_false_iff.mpr c21
     subst c21
     have H1 : ((quadratref06_IsTriple.f ((rd_T58 l1 x6_2).f2.f0) ((rd_T58 l1 x6_2).f2.f1) ((rd_T58 l1 x6_2).f2.f2)).bind fun t248 => (if t248 = true then (quadratref06_Cut.l0 k2 l1 (wrap64 (x6_2 + 1)) a0_0 l0_1 l0_2) else (some (0, ([] : List Int), ([] : List Int), 2)))) = some (r1, r2, r3, r4) := by rw [if_neg (show ¬ (false = true) by decide)] at H; exact H
     clear H
     have H := H1
     clear H1
     replace H := Option.bind_eq_some_iff.mp H
     obtain ⟨t248, A220, H⟩ := H
     replace H : (if t248 = true then (quadratref06_Cut.l0 k2 l1 (wrap64 (x6_2 + 1)) a0_0 l0_1 l0_2) else (some (0, ([] : List Int), ([] : List Int), 2))) = some (r1, r2, r3, r4) := H
     have A22 := Aside0.mk A220
     clear A220
     by_cases c23 : t248 = true
     case pos =>
      subst c23
      have H1 : (quadratref06_Cut.l0 k2 l1 (wrap64 (x6_2 + 1)) a0_0 l0_1 l0_2) = some (r1, r2, r3, r4) := by rw [if_pos rfl] at H; exact H
      clear H
      have H := H1
      clear H1
      have H' := Aside0.mk H
      clear H
      have p246 : 0 ≤ (x6_2 : Int) := of_decide_eq_true (by first | (with_reducible assumption) | assumption)
      have q246 : x6_2 < (l1.length : Int) := of_decide_eq_true (by first | (with_reducible assumption) | assumption)
      obtain ⟨ad246, e246, hx246_0, hx246_1, hx246_2, hx246_3, hx246_4⟩ := at_T58 HR1.out x6_2 p246 q246
      (try rw [← Nbq20.out] at hx246_0)
      cases e246
      replace hx246_0 := (HB.out.cell (World.block_lt_of_cell? w _ hx246_0)).trans hx246_0
      replace hx246_1 := (HB.out.cell (World.block_lt_of_cell? w _ hx246_1)).trans hx246_1
      replace hx246_2 := (HB.out.cell (World.block_lt_of_cell? w _ hx246_2)).trans hx246_2
      replace hx246_3 := (HB.out.cell (World.block_lt_of_cell? w _ hx246_3)).trans hx246_3
      replace hx246_4 := (HB.out.cell (World.block_lt_of_cell? w _ hx246_4)).trans hx246_4
      replace p246 := eq_true p246
      replace q246 := eq_true q246
      have p247 : 0 ≤ (x6_2 : Int) := of_decide_eq_true (by first | (with_reducible assumption) | assumption)
      have q247 : x6_2 < (l1.length : Int) := of_decide_eq_true (by first | (with_reducible assumption) | assumption)
      obtain ⟨ad247, e247, hx247_0, hx247_1, hx247_2, hx247_3, hx247_4⟩ := at_T58 HR1.out x6_2 p247 q247
      (try rw [← Nbq20.out] at hx247_0)
      obtain rfl : ad246 = ad247 := (by injection e247)
      replace hx247_0 := (HB.out.cell (World.block_lt_of_cell? w _ hx247_0)).trans hx247_0
      replace hx247_1 := (HB.out.cell (World.block_lt_of_cell? w _ hx247_1)).trans hx247_1
      replace hx247_2 := (HB.out.cell (World.block_lt_of_cell? w _ hx247_2)).trans hx247_2
      replace hx247_3 := (HB.out.cell (World.block_lt_of_cell? w _ hx247_3)).trans hx247_3
      replace hx247_4 := (HB.out.cell (World.block_lt_of_cell? w _ hx247_4)).trans hx247_4
      replace p247 := eq_true p247
      replace q247 := eq_true q247
      go_wp2_with (first | (go_at_call 44; (with_reducible refine (quadratref06_IsTriple.calls ((rd_T58 l1 x6_2).f2.f0) ((rd_T58 l1 x6_2).f2.f1) ((rd_T58 l1 x6_2).f2.f2) true _ A22.out).mono ?_); rintro e w24 ⟨rfl, hb⟩; have n0_ := Aside0.mk (blk_below (g := gb243) (o := .cells #[.int .i64 a0_0, .slice A0_1 l0_1.length c0_1, .slice A0_2 l0_2.length c0_2] 31 (0, 0)) (by (with_reducible repeat first | apply blk_drewN | apply blk_drew | apply blk_alloc); exact BK243.out) hb); have n1_ := Aside0.mk (blk_below (g := gb244) (o := .cells #[.int .i64 x245000_2, .slice none 0 0, .slice none 0 0] 31 (0, 0)) (by (with_reducible repeat first | apply blk_drewN | apply blk_drew | apply blk_alloc); exact BK244.out) hb); have n2_ := Aside0.mk (below_step (by repeat (first | (with_reducible first | exact HB.out | apply below_alloc | apply pw_below_drewN | apply below_drew1 | refine below_set ?_ GE243.out | refine below_set ?_ GE244.out) | exact HB.out)) hb); clear BK243; clear BK244; clear HB; have BK243 := n0_; have BK244 := n1_; have HB := n2_; clear n0_ n1_ n2_; (try clear hb); (try clear hb2); (try clear hk); (try clear hi)))
      go_roundg k2
      case measure => have := HJ2.out; have := HK2.out; omega
      case rel => exact ⟨(wrap64 (x6_2 + 1)), (x245000_2), (by first | rfl | (simp; done) | (simp [*]; done)), H', ⟨by have := HJ2.out; have := HK2.out; omega⟩, ⟨by (with_reducible repeat first | apply blk_drewN | apply blk_drew | apply blk_alloc); exact BK243.out⟩, ⟨by (with_reducible repeat first | apply blk_drewN | apply blk_drew | apply blk_alloc); exact BK244.out⟩, ⟨by repeat (first | (with_reducible first | exact HB.out | apply below_alloc | apply pw_below_drewN | apply below_drew1 | refine below_set ?_ GE243.out | refine below_set ?_ GE244.out) | exact HB.out)⟩⟩
     replace c23 := Bool.eq_false_iff.mpr c23
     subst c23
     have H1 : (some (0, ([] : List Int), ([] : List Int), 2)) = some (r1, r2, r3, r4) := by rw [if_neg (show ¬ (false = true) by decide)] at H; exact H
     clear H
     have H := H1
     clear H1
     simp only [Option.some.injEq, Prod.mk.injEq] at H
     obtain ⟨rfl, rfl, rfl, rfl⟩ := H
     have p246 : 0 ≤ (x6_2 : Int) := of_decide_eq_true (by first | (with_reducible assumption) | assumption)
     have q246 : x6_2 < (l1.length : Int) := of_decide_eq_true (by first | (with_reducible assumption) | assumption)
     obtain ⟨ad246, e246, hx246_0, hx246_1, hx246_2, hx246_3, hx246_4⟩ := at_T58 HR1.out x6_2 p246 q246
     (try rw [← Nbq20.out] at hx246_0)
     cases e246
     replace hx246_0 := (HB.out.cell (World.block_lt_of_cell? w _ hx246_0)).trans hx246_0
     replace hx246_1 := (HB.out.cell (World.block_lt_of_cell? w _ hx246_1)).trans hx246_1
     replace hx246_2 := (HB.out.cell (World.block_lt_of_cell? w _ hx246_2)).trans hx246_2
     replace hx246_3 := (HB.out.cell (World.block_lt_of_cell? w _ hx246_3)).trans hx246_3
     replace hx246_4 := (HB.out.cell (World.block_lt_of_cell? w _ hx246_4)).trans hx246_4
     replace p246 := eq_true p246
     replace q246 := eq_true q246
     have p247 : 0 ≤ (x6_2 : Int) := of_decide_eq_true (by first | (with_reducible assumption) | assumption)
     have q247 : x6_2 < (l1.length : Int) := of_decide_eq_true (by first | (with_reducible assumption) | assumption)
     obtain ⟨ad247, e247, hx247_0, hx247_1, hx247_2, hx247_3, hx247_4⟩ := at_T58 HR1.out x6_2 p247 q247
     (try rw [← Nbq20.out] at hx247_0)
     obtain rfl : ad246 = ad247 := (by injection e247)
     replace hx247_0 := (HB.out.cell (World.block_lt_of_cell? w _ hx247_0)).trans hx247_0
     replace hx247_1 := (HB.out.cell (World.block_lt_of_cell? w _ hx247_1)).trans hx247_1
     replace hx247_2 := (HB.out.cell (World.block_lt_of_cell? w _ hx247_2)).trans hx247_2
     replace hx247_3 := (HB.out.cell (World.block_lt_of_cell? w _ hx247_3)).trans hx247_3
     replace hx247_4 := (HB.out.cell (World.block_lt_of_cell? w _ hx247_4)).trans hx247_4
     replace p247 := eq_true p247
     replace q247 := eq_true q247
     go_wp2_with (first | (go_at_call 44; (with_reducible refine (quadratref06_IsTriple.calls ((rd_T58 l1 x6_2).f2.f0) ((rd_T58 l1 x6_2).f2.f1) ((rd_T58 l1 x6_2).f2.f2) false _ A22.out).mono ?_); rintro e w25 ⟨rfl, hb⟩; have n0_ := Aside0.mk (blk_below (g := gb243) (o := .cells #[.int .i64 a0_0, .slice A0_1 l0_1.length c0_1, .slice A0_2 l0_2.length c0_2] 31 (0, 0)) (by (with_reducible repeat first | apply blk_drewN | apply blk_drew | apply blk_alloc); exact BK243.out) hb); have n1_ := Aside0.mk (blk_below (g := gb244) (o := .cells #[.int .i64 x245000_2, .slice none 0 0, .slice none 0 0] 31 (0, 0)) (by (with_reducible repeat first | apply blk_drewN | apply blk_drew | apply blk_alloc); exact BK244.out) hb); have n2_ := Aside0.mk (below_step (by repeat (first | (with_reducible first | exact HB.out | apply below_alloc | apply pw_below_drewN | apply below_drew1 | refine below_set ?_ GE243.out | refine below_set ?_ GE244.out) | exact HB.out)) hb); clear BK243; clear BK244; clear HB; have BK243 := n0_; have BK244 := n1_; have HB := n2_; clear n0_ n1_ n2_; (try clear hb); (try clear hb2); (try clear hk); (try clear hi); have hnb26 := NB244_243.out; have hnc26 := NB243_244.out; have hcz27_0 : w25.cell? ⟨gb244, 0, none⟩ = some (.int .i64 x245000_2) := (blk_cell BK244.out 0).trans rfl; have hcz27_1 : w25.cell? ⟨gb244, 1, none⟩ = some (.slice none 0 0) := (blk_cell BK244.out 1).trans rfl; have hcz27_2 : w25.cell? ⟨gb244, 2, none⟩ = some (.slice none 0 0) := (blk_cell BK244.out 2).trans rfl; have hfz27_0 := blk_frozen BK244.out 0; have hfz27_1 := blk_frozen BK244.out 1; have hfz27_2 := blk_frozen BK244.out 2))
     refine bodyPost_ret (results_ct rfl _ _ gb244 31 #[.int .i64 0, .slice none 0 0, .slice none 0 0] (0, 0) _ rfl (by (with_reducible repeat first | apply blk_drewN | apply blk_drew | apply blk_alloc); refine blk_put (cs := #[.int .i64 0, .slice none 0 0, .slice none 0 0]) ?_ 2 _ rfl; (with_reducible repeat first | apply blk_drewN | apply blk_drew | apply blk_alloc); refine blk_put (cs := #[.int .i64 0, .slice none 0 0, .slice none 0 0]) ?_ 1 _ rfl; (with_reducible repeat first | apply blk_drewN | apply blk_drew | apply blk_alloc); refine blk_put (cs := #[.int .i64 x245000_2, .slice none 0 0, .slice none 0 0]) ?_ 0 _ rfl; (with_reducible repeat first | apply blk_drewN | apply blk_drew | apply blk_alloc); exact BK244.out) Try.underlying31 rfl (by kernel_rfl)) rfl ?_
     exact ⟨_, _, by first | (simp only [Array.getD_eq_getD_getElem?, List.getElem?_toArray, List.getElem?_cons_succ, List.getElem?_cons_zero, Option.getD_some] <;> rfl) | rfl | (simp [errW_none, errW_some] <;> rfl) | (simp [*, errW_none, errW_some] <;> rfl), by first | exact Kd.R_nil _ _ _ _ _ | exact Kd.N_nil _ _ _ _ _ | exact Kd.V_nil _ _ _ _ _ | exact Kd.Q_nil _ _ _ _ _ | exact Kd.S_nil _ _ _ _ _, by first | exact Kd.R_nil _ _ _ _ _ | exact Kd.N_nil _ _ _ _ _ | exact Kd.V_nil _ _ _ _ _ | exact Kd.Q_nil _ _ _ _ _ | exact Kd.S_nil _ _ _ _ _, by repeat (first | (with_reducible first | exact HB.out | apply below_alloc | apply pw_below_drewN | apply below_drew1 | refine below_set ?_ GE243.out | refine below_set ?_ GE244.out) | exact HB.out)⟩
    rw [if_neg c18] at H
    have c18b0 : decide (x6_2 < (l1.length : Int)) = false := decide_eq_false c18
    clear c18
    have H' := Aside0.mk H
    clear H
    have hnb28 := NB243_244.out
    have hnc28 := NB244_243.out
    have hcz29_0 : wr.cell? ⟨gb243, 0, none⟩ = some (.int .i64 a0_0) := (blk_cell BK243.out 0).trans rfl
    have hcz29_1 : wr.cell? ⟨gb243, 1, none⟩ = some (.slice A0_1 l0_1.length c0_1) := (blk_cell BK243.out 1).trans rfl
    have hcz29_2 : wr.cell? ⟨gb243, 2, none⟩ = some (.slice A0_2 l0_2.length c0_2) := (blk_cell BK243.out 2).trans rfl
    have hfz29_0 := blk_frozen BK243.out 0
    have hfz29_1 := blk_frozen BK243.out 1
    have hfz29_2 := blk_frozen BK243.out 2
    go_wp2_with (first | ((with_reducible refine gate_dst (N := 7) rfl ?_); (try (refine gate_guard (by rfl) ?_; dsimp only)); refine box_event ?hg (N := 7) ?hd (cs := #[.int .i64 0, .slice none 0 0, .slice none 0 0]) (t := 31) ?hr ?_; (case hd => rfl); (case hg => rfl); (case hr => first | (go_simp; done) | (go_simp; rfl)); intro gb249 hg w30 hbox hb; have n0_ := Aside0.mk (blk_below (g := gb243) (o := .cells #[.int .i64 a0_0, .slice A0_1 l0_1.length c0_1, .slice A0_2 l0_2.length c0_2] 31 (0, 0)) (by (with_reducible repeat first | apply blk_drewN | apply blk_drew | apply blk_alloc); exact BK243.out) hb); have n1_ := Aside0.mk (blk_below (g := gb244) (o := .cells #[.int .i64 x245000_2, .slice none 0 0, .slice none 0 0] 31 (0, 0)) (by (with_reducible repeat first | apply blk_drewN | apply blk_drew | apply blk_alloc); exact BK244.out) hb); have n2_ := Aside0.mk (below_step (by repeat (first | (with_reducible first | exact HB.out | apply below_alloc | apply pw_below_drewN | apply below_drew1 | refine below_set ?_ GE243.out | refine below_set ?_ GE244.out) | exact HB.out)) hb); have n3_ := Aside0.mk (hbox); have n4_ := Aside0.mk ((by rw [hg]; exact (below_size (by repeat (first | (with_reducible first | exact HB.out | apply below_alloc | apply pw_below_drewN | apply below_drew1 | refine below_set ?_ GE243.out | refine below_set ?_ GE244.out) | exact HB.out))) : w.heap.size ≤ gb249)); have n5_ := Aside0.mk ((by rw [hg]; exact (below_size (by repeat (first | (with_reducible first | exact HB.out | apply below_alloc | apply pw_below_drewN | apply below_drew1 | refine below_set ?_ GE243.out | refine below_set ?_ GE244.out) | exact HB.out))) : w.heap.size ≤ gb249)); have n6_ := Aside0.mk ((by rw [hg]; exact Nat.ne_of_lt (blk_lt (g := gb243) (o := .cells #[.int .i64 a0_0, .slice A0_1 l0_1.length c0_1, .slice A0_2 l0_2.length c0_2] 31 (0, 0)) (by (with_reducible repeat first | apply blk_drewN | apply blk_drew | apply blk_alloc); exact BK243.out)) : gb243 ≠ gb249)); have n7_ := Aside0.mk ((by rw [hg]; exact Nat.ne_of_gt (blk_lt (g := gb243) (o := .cells #[.int .i64 a0_0, .slice A0_1 l0_1.length c0_1, .slice A0_2 l0_2.length c0_2] 31 (0, 0)) (by (with_reducible repeat first | apply blk_drewN | apply blk_drew | apply blk_alloc); exact BK243.out)) : gb249 ≠ gb243)); have n8_ := Aside0.mk ((by rw [hg]; exact Nat.ne_of_lt (blk_lt (g := gb244) (o := .cells #[.int .i64 x245000_2, .slice none 0 0, .slice none 0 0] 31 (0, 0)) (by (with_reducible repeat first | apply blk_drewN | apply blk_drew | apply blk_alloc); exact BK244.out)) : gb244 ≠ gb249)); have n9_ := Aside0.mk ((by rw [hg]; exact Nat.ne_of_gt (blk_lt (g := gb244) (o := .cells #[.int .i64 x245000_2, .slice none 0 0, .slice none 0 0] 31 (0, 0)) (by (with_reducible repeat first | apply blk_drewN | apply blk_drew | apply blk_alloc); exact BK244.out)) : gb249 ≠ gb244)); clear BK243; clear BK244; clear HB; have BK243 := n0_; have BK244 := n1_; have HB := n2_; have BK249 := n3_; have GW249 := n4_; have GE249 := n5_; have NB243_249 := n6_; have NB249_243 := n7_; have NB244_249 := n8_; have NB249_244 := n9_; clear n0_ n1_ n2_ n3_ n4_ n5_ n6_ n7_ n8_ n9_; clear hb hbox hg; have hnb31 := NB249_243.out; have hnc31 := NB243_249.out; have hnb32 := NB249_244.out; have hnc32 := NB244_249.out; have hcz33_0 : w30.cell? ⟨gb249, 0, none⟩ = some (.int .i64 0) := (blk_cell BK249.out 0).trans rfl; have hcz33_1 : w30.cell? ⟨gb249, 1, none⟩ = some (.slice none 0 0) := (blk_cell BK249.out 1).trans rfl; have hcz33_2 : w30.cell? ⟨gb249, 2, none⟩ = some (.slice none 0 0) := (blk_cell BK249.out 2).trans rfl; have hfz33_0 := blk_frozen BK249.out 0; have hfz33_1 := blk_frozen BK249.out 1; have hfz33_2 := blk_frozen BK249.out 2))
    go_loopg [8] k2 (fun kq v8 w' => ∃ (x8_3 : Int) (x245000_3 : Int) (x250000_3 : Int) (x250001_3 : List Int) (x250002_3 : List Int) (u250001 : Value) (u250002 : Value), v8 = .int .i64 x8_3 ∧ Aside0 (quadratref06_Cut.l1 kq l1 x8_3 a0_0 l0_1 l0_2 x250000_3 x250001_3 x250002_3 = some (r1, r2, r3, r4)) ∧ Aside0 (kq ≤ k2) ∧ Aside0 (Kd.R (Kd.int .i64) 3 w' w.heap.size (fun k_ => some k_ ≠ (u250002 : Value).ownBlock) u250001 x250001_3) ∧ Aside0 (Kd.R (Kd.int .i64) 3 w' w.heap.size (fun k_ => some k_ ≠ (u250001 : Value).ownBlock) u250002 x250002_3) ∧ Aside0 (w'.heap[gb243]? = some (.cells #[.int .i64 a0_0, (.slice A0_1 l0_1.length c0_1), (.slice A0_2 l0_2.length c0_2)] 31 (0, 0))) ∧ Aside0 (w'.heap[gb244]? = some (.cells #[.int .i64 x245000_3, (.slice none 0 0), (.slice none 0 0)] 31 (0, 0))) ∧ Aside0 (w'.heap[gb249]? = some (.cells #[.int .i64 x250000_3, u250001, u250002] 31 (0, 0))) ∧ Aside0 (Below w.heap.size w w'))
    case atStart => exact ⟨(0), (x245000_2), (a0_0), (([] : List Int)), (([] : List Int)), (.slice none 0 0), (.slice none 0 0), (by first | rfl | (simp; done) | (simp [*]; done)), H', ⟨Nat.le_refl _⟩, ⟨by first | exact Kd.R_nil _ _ _ _ _ | exact Kd.N_nil _ _ _ _ _ | exact Kd.V_nil _ _ _ _ _ | exact Kd.Q_nil _ _ _ _ _ | exact Kd.S_nil _ _ _ _ _⟩, ⟨by first | exact Kd.R_nil _ _ _ _ _ | exact Kd.N_nil _ _ _ _ _ | exact Kd.V_nil _ _ _ _ _ | exact Kd.Q_nil _ _ _ _ _ | exact Kd.S_nil _ _ _ _ _⟩, ⟨by (with_reducible repeat first | apply blk_drewN | apply blk_drew | apply blk_alloc); refine blk_far ?_ NB243_249.out _; (with_reducible repeat first | apply blk_drewN | apply blk_drew | apply blk_alloc); refine blk_far ?_ NB243_249.out _; (with_reducible repeat first | apply blk_drewN | apply blk_drew | apply blk_alloc); refine blk_far ?_ NB243_249.out _; (with_reducible repeat first | apply blk_drewN | apply blk_drew | apply blk_alloc); exact BK243.out⟩, ⟨by (with_reducible repeat first | apply blk_drewN | apply blk_drew | apply blk_alloc); refine blk_far ?_ NB244_249.out _; (with_reducible repeat first | apply blk_drewN | apply blk_drew | apply blk_alloc); refine blk_far ?_ NB244_249.out _; (with_reducible repeat first | apply blk_drewN | apply blk_drew | apply blk_alloc); refine blk_far ?_ NB244_249.out _; (with_reducible repeat first | apply blk_drewN | apply blk_drew | apply blk_alloc); exact BK244.out⟩, ⟨by (with_reducible repeat first | apply blk_drewN | apply blk_drew | apply blk_alloc); refine blk_put (cs := #[.int .i64 a0_0, .slice none 0 0, .slice none 0 0]) ?_ 2 _ rfl; (with_reducible repeat first | apply blk_drewN | apply blk_drew | apply blk_alloc); refine blk_put (cs := #[.int .i64 a0_0, .slice none 0 0, .slice none 0 0]) ?_ 1 _ rfl; (with_reducible repeat first | apply blk_drewN | apply blk_drew | apply blk_alloc); refine blk_put (cs := #[.int .i64 0, .slice none 0 0, .slice none 0 0]) ?_ 0 _ rfl; (with_reducible repeat first | apply blk_drewN | apply blk_drew | apply blk_alloc); exact BK249.out⟩, ⟨by repeat (first | (with_reducible first | exact HB.out | apply below_alloc | apply pw_below_drewN | apply below_drew1 | refine below_set ?_ GE243.out | refine below_set ?_ GE244.out | refine below_set ?_ GE249.out) | exact HB.out)⟩⟩
    clear H'
    try clear c1
    try clear c2
    try clear p2
    try clear q2
    try clear hx2
    try clear c3
    try clear p6
    try clear c7
    try clear c8
    try clear c12
    try clear c15
    try clear c16
    try clear c18
    try clear c18b0
    try clear c19
    try clear c19b0
    try clear q20
    try clear c21
    try clear c23
    try clear c24
    try clear p24
    try clear q24
    try clear hx24
    try clear c26
    try clear c28
    try clear c31
    try clear c32
    try clear hcz11_0
    try clear hcz11_1
    try clear hcz11_2
    try clear hcz13_0
    try clear hcz13_1
    try clear hcz13_2
    try clear hcz17_0
    try clear hcz17_1
    try clear hcz17_2
    try clear hcz27_0
    try clear hcz27_1
    try clear hcz27_2
    try clear hcz29_0
    try clear hcz29_1
    try clear hcz29_2
    try clear hcz33_0
    try clear hcz33_1
    try clear hcz33_2
    try clear hcz9_0
    try clear hcz9_1
    try clear hcz9_2
    try clear hfz11_0
    try clear hfz11_1
    try clear hfz11_2
    try clear hfz13_0
    try clear hfz13_1
    try clear hfz13_2
    try clear hfz17_0
    try clear hfz17_1
    try clear hfz17_2
    try clear hfz27_0
    try clear hfz27_1
    try clear hfz27_2
    try clear hfz29_0
    try clear hfz29_1
    try clear hfz29_2
    try clear hfz33_0
    try clear hfz33_1
    try clear hfz33_2
    try clear hfz9_0
    try clear hfz9_1
    try clear hfz9_2
    try clear hx246_0
    try clear hx246_1
    try clear hx246_2
    try clear hx246_3
    try clear hx246_4
    try clear hx247_0
    try clear hx247_1
    try clear hx247_2
    try clear hx247_3
    try clear hx247_4
    try clear p2
    try clear p246
    try clear p247
    try clear q246
    try clear q247
    obtain ⟨x8_3, x245000_3, x250000_3, x250001_3, x250002_3, u250001, u250002, rfl, HA, HK3, HO_250001, HO_250002, BK243, BK244, BK249, HB⟩ := hrel
    cases gk with
    | zero => exact absurd HA.out (by simp [quadratref06_Cut.l1])
    | succ k3 =>
     have H := HA.out
     clear HA
     simp only [quadratref06_Cut.l1] at H
     by_cases c34 : x8_3 < (l1.length : Int)
     case neg =>
      rw [if_neg c34] at H
      have c34b0 : decide (x8_3 < (l1.length : Int)) = false := decide_eq_false c34
      clear c34
      simp only [Option.some.injEq, Prod.mk.injEq] at H
      obtain ⟨rfl, rfl, rfl, rfl⟩ := H
      have hnb128 := NB249_243.out
      have hnc128 := NB243_249.out
      have hnb129 := NB249_244.out
      have hnc129 := NB244_249.out
      have hcz130_0 : wr.cell? ⟨gb249, 0, none⟩ = some (.int .i64 x250000_3) := (blk_cell BK249.out 0).trans rfl
      have hcz130_1 : wr.cell? ⟨gb249, 1, none⟩ = some (u250001) := (blk_cell BK249.out 1).trans rfl
      have hcz130_2 : wr.cell? ⟨gb249, 2, none⟩ = some (u250002) := (blk_cell BK249.out 2).trans rfl
      have hfz130_0 := blk_frozen BK249.out 0
      have hfz130_1 := blk_frozen BK249.out 1
      have hfz130_2 := blk_frozen BK249.out 2
      have hnb131 := NB244_243.out
      have hnc131 := NB243_244.out
      have hcz132_0 : wr.cell? ⟨gb244, 0, none⟩ = some (.int .i64 x245000_3) := (blk_cell BK244.out 0).trans rfl
      have hcz132_1 : wr.cell? ⟨gb244, 1, none⟩ = some (.slice none 0 0) := (blk_cell BK244.out 1).trans rfl
      have hcz132_2 : wr.cell? ⟨gb244, 2, none⟩ = some (.slice none 0 0) := (blk_cell BK244.out 2).trans rfl
      have hfz132_0 := blk_frozen BK244.out 0
      have hfz132_1 := blk_frozen BK244.out 1
      have hfz132_2 := blk_frozen BK244.out 2
      obtain ⟨Ao133, co133, eo133⟩ := Kd.R_slice HO_250001.out
      subst eo133
      obtain ⟨Ao134, co134, eo134⟩ := Kd.R_slice HO_250002.out
      subst eo134
      go_wp2
      refine bodyPost_ret (results_ct rfl _ _ gb244 31 #[.int .i64 x250000_3, .slice Ao133 x250001_3.length co133, .slice Ao134 x250002_3.length co134] (0, 0) _ rfl (by (with_reducible repeat first | apply blk_drewN | apply blk_drew | apply blk_alloc); refine blk_put (cs := #[.int .i64 x250000_3, .slice Ao133 x250001_3.length co133, .slice none 0 0]) ?_ 2 _ rfl; (with_reducible repeat first | apply blk_drewN | apply blk_drew | apply blk_alloc); refine blk_put (cs := #[.int .i64 x250000_3, .slice none 0 0, .slice none 0 0]) ?_ 1 _ rfl; (with_reducible repeat first | apply blk_drewN | apply blk_drew | apply blk_alloc); refine blk_put (cs := #[.int .i64 x245000_3, .slice none 0 0, .slice none 0 0]) ?_ 0 _ rfl; (with_reducible repeat first | apply blk_drewN | apply blk_drew | apply blk_alloc); exact BK244.out) Try.underlying31 rfl (by kernel_rfl)) rfl ?_
      exact ⟨_, _, by first | (simp only [Array.getD_eq_getD_getElem?, List.getElem?_toArray, List.getElem?_cons_succ, List.getElem?_cons_zero, Option.getD_some] <;> rfl) | rfl | (simp [errW_none, errW_some] <;> rfl) | (simp [*, errW_none, errW_some] <;> rfl), by (with_reducible repeat first | apply Kd.R_alloc | apply Kd.R_drewN | apply Kd.R_drew); exact Kd.R_mono (Kd.R_far (p := ⟨gb244, 2, none⟩) (Kd.R_far (p := ⟨gb244, 1, none⟩) (Kd.R_far (p := ⟨gb244, 0, none⟩) (Kd.R_types HO_250001.out BK244.out (by decide)) (fun _ hk => hk.2) (.int .i64 x250000_3)) (fun _ hk => hk.2) (.slice Ao133 x250001_3.length co133)) (fun _ hk => hk.2) (.slice Ao134 x250002_3.length co134)) (fun _ hk => hk.1), by (with_reducible repeat first | apply Kd.R_alloc | apply Kd.R_drewN | apply Kd.R_drew); exact Kd.R_mono (Kd.R_far (p := ⟨gb244, 2, none⟩) (Kd.R_far (p := ⟨gb244, 1, none⟩) (Kd.R_far (p := ⟨gb244, 0, none⟩) (Kd.R_types HO_250002.out BK244.out (by decide)) (fun _ hk => hk.2) (.int .i64 x250000_3)) (fun _ hk => hk.2) (.slice Ao133 x250001_3.length co133)) (fun _ hk => hk.2) (.slice Ao134 x250002_3.length co134)) (fun _ hk => hk.1), by repeat (first | (with_reducible first | exact HB.out | apply below_alloc | apply pw_below_drewN | apply below_drew1 | refine below_set ?_ GE243.out | refine below_set ?_ GE244.out | refine below_set ?_ GE249.out) | exact HB.out)⟩
     rw [if_pos c34] at H
     have c34b0 : decide (x8_3 < (l1.length : Int)) = true := decide_eq_true c34
     clear c34
     by_cases c35 : 0 ≤ x8_3
     case neg =>
      rw [if_neg c35] at H
      exact absurd H (by simp)
     rw [if_pos c35] at H
     have c35b0 : decide (0 ≤ x8_3) = true := decide_eq_true c35
     clear c35
     have HC36 := Aside0.mk H
     clear H
     have p250 : 0 ≤ (x8_3 : Int) := of_decide_eq_true (by first | (with_reducible assumption) | assumption)
     have q250 : x8_3 < (l1.length : Int) := of_decide_eq_true (by first | (with_reducible assumption) | assumption)
     obtain ⟨ad250, e250, hx250_0, hx250_1, hx250_2, hx250_3, hx250_4⟩ := at_T58 HR1.out x8_3 p250 q250
     cases e250
     replace hx250_0 := (HB.out.cell (World.block_lt_of_cell? w _ hx250_0)).trans hx250_0
     replace hx250_1 := (HB.out.cell (World.block_lt_of_cell? w _ hx250_1)).trans hx250_1
     replace hx250_2 := (HB.out.cell (World.block_lt_of_cell? w _ hx250_2)).trans hx250_2
     replace hx250_3 := (HB.out.cell (World.block_lt_of_cell? w _ hx250_3)).trans hx250_3
     replace hx250_4 := (HB.out.cell (World.block_lt_of_cell? w _ hx250_4)).trans hx250_4
     replace p250 := eq_true p250
     replace q250 := eq_true q250
     have p251 : 0 ≤ (x8_3 : Int) := of_decide_eq_true (by first | (with_reducible assumption) | assumption)
     have q251 : x8_3 < (l1.length : Int) := of_decide_eq_true (by first | (with_reducible assumption) | assumption)
     obtain ⟨ad251, e251, hx251_0, hx251_1, hx251_2, hx251_3, hx251_4⟩ := at_T58 HR1.out x8_3 p251 q251
     obtain rfl : ad250 = ad251 := (by injection e251)
     replace hx251_0 := (HB.out.cell (World.block_lt_of_cell? w _ hx251_0)).trans hx251_0
     replace hx251_1 := (HB.out.cell (World.block_lt_of_cell? w _ hx251_1)).trans hx251_1
     replace hx251_2 := (HB.out.cell (World.block_lt_of_cell? w _ hx251_2)).trans hx251_2
     replace hx251_3 := (HB.out.cell (World.block_lt_of_cell? w _ hx251_3)).trans hx251_3
     replace hx251_4 := (HB.out.cell (World.block_lt_of_cell? w _ hx251_4)).trans hx251_4
     replace p251 := eq_true p251
     replace q251 := eq_true q251
     go_upto_if 72 with (first | ((with_reducible refine gate_dst (N := 12) rfl ?_); (try (refine gate_guard (by rfl) ?_; dsimp only)); refine box_event ?hg (N := 12) ?hd (cs := #[.int .i64 0, .int .i64 0, .int .i64 0]) (t := 23) ?hr ?_; (case hd => rfl); (case hg => rfl); (case hr => first | (go_simp; done) | (go_simp; rfl)); intro gb252 hg w37 hbox hb; have n0_ := Aside0.mk (Kd.R_below (by (with_reducible repeat first | apply Kd.R_alloc | apply Kd.R_drewN | apply Kd.R_drew); exact HO_250001.out) hb); have n1_ := Aside0.mk (Kd.R_below (by (with_reducible repeat first | apply Kd.R_alloc | apply Kd.R_drewN | apply Kd.R_drew); exact HO_250002.out) hb); have n2_ := Aside0.mk (blk_below (g := gb243) (o := .cells #[.int .i64 a0_0, .slice A0_1 l0_1.length c0_1, .slice A0_2 l0_2.length c0_2] 31 (0, 0)) (by (with_reducible repeat first | apply blk_drewN | apply blk_drew | apply blk_alloc); exact BK243.out) hb); have n3_ := Aside0.mk (blk_below (g := gb244) (o := .cells #[.int .i64 x245000_3, .slice none 0 0, .slice none 0 0] 31 (0, 0)) (by (with_reducible repeat first | apply blk_drewN | apply blk_drew | apply blk_alloc); exact BK244.out) hb); have n4_ := Aside0.mk (blk_below (g := gb249) (o := .cells #[.int .i64 x250000_3, u250001, u250002] 31 (0, 0)) (by (with_reducible repeat first | apply blk_drewN | apply blk_drew | apply blk_alloc); exact BK249.out) hb); have n5_ := Aside0.mk (below_step (by repeat (first | (with_reducible first | exact HB.out | apply below_alloc | apply pw_below_drewN | apply below_drew1 | refine below_set ?_ GE243.out | refine below_set ?_ GE244.out | refine below_set ?_ GE249.out) | exact HB.out)) hb); have n6_ := Aside0.mk (hbox); have n7_ := Aside0.mk ((by rw [hg]; exact (below_size (by repeat (first | (with_reducible first | exact HB.out | apply below_alloc | apply pw_below_drewN | apply below_drew1 | refine below_set ?_ GE243.out | refine below_set ?_ GE244.out | refine below_set ?_ GE249.out) | exact HB.out))) : w.heap.size ≤ gb252)); have n8_ := Aside0.mk ((by rw [hg]; exact (below_size (by repeat (first | (with_reducible first | exact HB.out | apply below_alloc | apply pw_below_drewN | apply below_drew1 | refine below_set ?_ GE243.out | refine below_set ?_ GE244.out | refine below_set ?_ GE249.out) | exact HB.out))) : w.heap.size ≤ gb252)); have n9_ := Aside0.mk ((by rw [hg]; exact Nat.ne_of_lt (blk_lt (g := gb243) (o := .cells #[.int .i64 a0_0, .slice A0_1 l0_1.length c0_1, .slice A0_2 l0_2.length c0_2] 31 (0, 0)) (by (with_reducible repeat first | apply blk_drewN | apply blk_drew | apply blk_alloc); exact BK243.out)) : gb243 ≠ gb252)); have n10_ := Aside0.mk ((by rw [hg]; exact Nat.ne_of_gt (blk_lt (g := gb243) (o := .cells #[.int .i64 a0_0, .slice A0_1 l0_1.length c0_1, .slice A0_2 l0_2.length c0_2] 31 (0, 0)) (by (with_reducible repeat first | apply blk_drewN | apply blk_drew | apply blk_alloc); exact BK243.out)) : gb252 ≠ gb243)); have n11_ := Aside0.mk ((by rw [hg]; exact Nat.ne_of_lt (blk_lt (g := gb244) (o := .cells #[.int .i64 x245000_3, .slice none 0 0, .slice none 0 0] 31 (0, 0)) (by (with_reducible repeat first | apply blk_drewN | apply blk_drew | apply blk_alloc); exact BK244.out)) : gb244 ≠ gb252)); have n12_ := Aside0.mk ((by rw [hg]; exact Nat.ne_of_gt (blk_lt (g := gb244) (o := .cells #[.int .i64 x245000_3, .slice none 0 0, .slice none 0 0] 31 (0, 0)) (by (with_reducible repeat first | apply blk_drewN | apply blk_drew | apply blk_alloc); exact BK244.out)) : gb252 ≠ gb244)); have n13_ := Aside0.mk ((by rw [hg]; exact Nat.ne_of_lt (blk_lt (g := gb249) (o := .cells #[.int .i64 x250000_3, u250001, u250002] 31 (0, 0)) (by (with_reducible repeat first | apply blk_drewN | apply blk_drew | apply blk_alloc); exact BK249.out)) : gb249 ≠ gb252)); have n14_ := Aside0.mk ((by rw [hg]; exact Nat.ne_of_gt (blk_lt (g := gb249) (o := .cells #[.int .i64 x250000_3, u250001, u250002] 31 (0, 0)) (by (with_reducible repeat first | apply blk_drewN | apply blk_drew | apply blk_alloc); exact BK249.out)) : gb252 ≠ gb249)); clear HO_250001; clear HO_250002; clear BK243; clear BK244; clear BK249; clear HB; have HO_250001 := n0_; have HO_250002 := n1_; have BK243 := n2_; have BK244 := n3_; have BK249 := n4_; have HB := n5_; have BK252 := n6_; have GW252 := n7_; have GE252 := n8_; have NB243_252 := n9_; have NB252_243 := n10_; have NB244_252 := n11_; have NB252_244 := n12_; have NB249_252 := n13_; have NB252_249 := n14_; clear n0_ n1_ n2_ n3_ n4_ n5_ n6_ n7_ n8_ n9_ n10_ n11_ n12_ n13_ n14_; clear hb hbox hg; have hnb38 := NB252_243.out; have hnc38 := NB243_252.out; have hnb39 := NB252_244.out; have hnc39 := NB244_252.out; have hnb40 := NB252_249.out; have hnc40 := NB249_252.out; have hcz41_0 : w37.cell? ⟨gb252, 0, none⟩ = some (.int .i64 0) := (blk_cell BK252.out 0).trans rfl; have hcz41_1 : w37.cell? ⟨gb252, 1, none⟩ = some (.int .i64 0) := (blk_cell BK252.out 1).trans rfl; have hcz41_2 : w37.cell? ⟨gb252, 2, none⟩ = some (.int .i64 0) := (blk_cell BK252.out 2).trans rfl; have hfz41_0 := blk_frozen BK252.out 0; have hfz41_1 := blk_frozen BK252.out 1; have hfz41_2 := blk_frozen BK252.out 2; have p253 : 0 ≤ (x8_3 : Int) := of_decide_eq_true (by first | (with_reducible assumption) | assumption); have q253 : x8_3 < (l1.length : Int) := of_decide_eq_true (by first | (with_reducible assumption) | assumption); obtain ⟨ad253, e253, hx253_0, hx253_1, hx253_2, hx253_3, hx253_4⟩ := at_T58 HR1.out x8_3 p253 q253; obtain rfl : ad250 = ad253 := (by injection e253); have hn253_0 : ad250.block ≠ gb252 := Nat.ne_of_lt (Nat.lt_of_lt_of_le (by have := World.block_lt_of_cell? _ _ hx253_0; first | rwa [add_block] at this | exact this) GW252.out); have hn253_1 : ad250.block ≠ gb252 := Nat.ne_of_lt (Nat.lt_of_lt_of_le (by have := World.block_lt_of_cell? _ _ hx253_0; first | rwa [add_block] at this | exact this) GW252.out); have hn253_2 : ad250.block ≠ gb252 := Nat.ne_of_lt (Nat.lt_of_lt_of_le (by have := World.block_lt_of_cell? _ _ hx253_0; first | rwa [add_block] at this | exact this) GW252.out); replace hx253_0 := (HB.out.cell (World.block_lt_of_cell? w _ hx253_0)).trans hx253_0; replace hx253_1 := (HB.out.cell (World.block_lt_of_cell? w _ hx253_1)).trans hx253_1; replace hx253_2 := (HB.out.cell (World.block_lt_of_cell? w _ hx253_2)).trans hx253_2; replace hx253_3 := (HB.out.cell (World.block_lt_of_cell? w _ hx253_3)).trans hx253_3; replace hx253_4 := (HB.out.cell (World.block_lt_of_cell? w _ hx253_4)).trans hx253_4; replace hx253_0 := (cell_far (p := ⟨gb252, 0, none⟩) (by first | (rw [add_block]; exact hn253_0) | (show (Addr.add _ _).block ≠ _; rw [add_block]; exact hn253_0) | exact hn253_0) (.int .i64 ((rd_T58 l1 x8_3).f2.f0))).trans hx253_0; replace hx253_1 := (cell_far (p := ⟨gb252, 0, none⟩) (by first | (rw [add_block]; exact hn253_0) | (show (Addr.add _ _).block ≠ _; rw [add_block]; exact hn253_0) | exact hn253_0) (.int .i64 ((rd_T58 l1 x8_3).f2.f0))).trans hx253_1; replace hx253_2 := (cell_far (p := ⟨gb252, 0, none⟩) (by first | (rw [add_block]; exact hn253_0) | (show (Addr.add _ _).block ≠ _; rw [add_block]; exact hn253_0) | exact hn253_0) (.int .i64 ((rd_T58 l1 x8_3).f2.f0))).trans hx253_2; replace hx253_3 := (cell_far (p := ⟨gb252, 0, none⟩) (by first | (rw [add_block]; exact hn253_0) | (show (Addr.add _ _).block ≠ _; rw [add_block]; exact hn253_0) | exact hn253_0) (.int .i64 ((rd_T58 l1 x8_3).f2.f0))).trans hx253_3; replace hx253_4 := (cell_far (p := ⟨gb252, 0, none⟩) (by first | (rw [add_block]; exact hn253_0) | (show (Addr.add _ _).block ≠ _; rw [add_block]; exact hn253_0) | exact hn253_0) (.int .i64 ((rd_T58 l1 x8_3).f2.f0))).trans hx253_4; replace hx253_0 := (cell_far (p := ⟨gb252, 1, none⟩) (by first | (rw [add_block]; exact hn253_1) | (show (Addr.add _ _).block ≠ _; rw [add_block]; exact hn253_1) | exact hn253_1) (.int .i64 ((rd_T58 l1 x8_3).f2.f1))).trans hx253_0; replace hx253_1 := (cell_far (p := ⟨gb252, 1, none⟩) (by first | (rw [add_block]; exact hn253_1) | (show (Addr.add _ _).block ≠ _; rw [add_block]; exact hn253_1) | exact hn253_1) (.int .i64 ((rd_T58 l1 x8_3).f2.f1))).trans hx253_1; replace hx253_2 := (cell_far (p := ⟨gb252, 1, none⟩) (by first | (rw [add_block]; exact hn253_1) | (show (Addr.add _ _).block ≠ _; rw [add_block]; exact hn253_1) | exact hn253_1) (.int .i64 ((rd_T58 l1 x8_3).f2.f1))).trans hx253_2; replace hx253_3 := (cell_far (p := ⟨gb252, 1, none⟩) (by first | (rw [add_block]; exact hn253_1) | (show (Addr.add _ _).block ≠ _; rw [add_block]; exact hn253_1) | exact hn253_1) (.int .i64 ((rd_T58 l1 x8_3).f2.f1))).trans hx253_3; replace hx253_4 := (cell_far (p := ⟨gb252, 1, none⟩) (by first | (rw [add_block]; exact hn253_1) | (show (Addr.add _ _).block ≠ _; rw [add_block]; exact hn253_1) | exact hn253_1) (.int .i64 ((rd_T58 l1 x8_3).f2.f1))).trans hx253_4; replace hx253_0 := (cell_far (p := ⟨gb252, 2, none⟩) (by first | (rw [add_block]; exact hn253_2) | (show (Addr.add _ _).block ≠ _; rw [add_block]; exact hn253_2) | exact hn253_2) (.int .i64 ((rd_T58 l1 x8_3).f2.f2))).trans hx253_0; replace hx253_1 := (cell_far (p := ⟨gb252, 2, none⟩) (by first | (rw [add_block]; exact hn253_2) | (show (Addr.add _ _).block ≠ _; rw [add_block]; exact hn253_2) | exact hn253_2) (.int .i64 ((rd_T58 l1 x8_3).f2.f2))).trans hx253_1; replace hx253_2 := (cell_far (p := ⟨gb252, 2, none⟩) (by first | (rw [add_block]; exact hn253_2) | (show (Addr.add _ _).block ≠ _; rw [add_block]; exact hn253_2) | exact hn253_2) (.int .i64 ((rd_T58 l1 x8_3).f2.f2))).trans hx253_2; replace hx253_3 := (cell_far (p := ⟨gb252, 2, none⟩) (by first | (rw [add_block]; exact hn253_2) | (show (Addr.add _ _).block ≠ _; rw [add_block]; exact hn253_2) | exact hn253_2) (.int .i64 ((rd_T58 l1 x8_3).f2.f2))).trans hx253_3; replace hx253_4 := (cell_far (p := ⟨gb252, 2, none⟩) (by first | (rw [add_block]; exact hn253_2) | (show (Addr.add _ _).block ≠ _; rw [add_block]; exact hn253_2) | exact hn253_2) (.int .i64 ((rd_T58 l1 x8_3).f2.f2))).trans hx253_4; clear hn253_0; clear hn253_1; clear hn253_2; replace p253 := eq_true p253; replace q253 := eq_true q253))
     (try simp only [Act.put, List.setIfInBounds_toArray, List.set_cons_zero, List.set_cons_succ])
     go_cut [9, 10, 11] (fun v9 v10 v11 wc => ∃ (kq : Nat) (x9_35 : Int) (x10_35 : Int) (x11_35 : Int), v9 = .int .i64 x9_35 ∧ v10 = .int .i64 x10_35 ∧ v11 = .int .i64 x11_35 ∧ Aside0 (quadratref06_Cut.j3 kq l1 x8_3 x9_35 x10_35 x11_35 a0_0 l0_1 l0_2 x250000_3 x250001_3 x250002_3 = some (r1, r2, r3, r4)) ∧ Aside0 (kq ≤ k3) ∧ Aside0 (Kd.R (Kd.int .i64) 3 wc w.heap.size (fun k_ => some k_ ≠ (u250002 : Value).ownBlock) u250001 x250001_3) ∧ Aside0 (Kd.R (Kd.int .i64) 3 wc w.heap.size (fun k_ => some k_ ≠ (u250001 : Value).ownBlock) u250002 x250002_3) ∧ Aside0 (wc.heap[gb243]? = some (.cells #[.int .i64 a0_0, (.slice A0_1 l0_1.length c0_1), (.slice A0_2 l0_2.length c0_2)] 31 (0, 0))) ∧ Aside0 (wc.heap[gb244]? = some (.cells #[.int .i64 x245000_3, (.slice none 0 0), (.slice none 0 0)] 31 (0, 0))) ∧ Aside0 (wc.heap[gb249]? = some (.cells #[.int .i64 x250000_3, u250001, u250002] 31 (0, 0))) ∧ Aside0 (wc.heap[gb252]? = some (.cells #[.int .i64 ((rd_T58 l1 x8_3).f2.f0), .int .i64 ((rd_T58 l1 x8_3).f2.f1), .int .i64 ((rd_T58 l1 x8_3).f2.f2)] 23 (0, 0))) ∧ Aside0 (Below w.heap.size w wc))
     case first =>
      have H := HC36.out
      clear HC36
      obtain ⟨bq42, hbq42⟩ : ∃ b_ : Bool, b_ = ((rd_T58 l1 x8_3).f0) := ⟨_, rfl⟩
      replace H : (if (bq42 = true) then (quadratref06_Cut.j3 k3 l1 x8_3 ((rd_T58 l1 x8_3).f1) 1 1 a0_0 l0_1 l0_2 x250000_3 x250001_3 x250002_3) else ((quadratref06_count.f ((rd_T58 l1 x8_3).f2.f0) ((rd_T58 l1 x8_3).f2.f1) ((rd_T58 l1 x8_3).f2.f2)).bind fun t254 => (quadratref06_Cut.j3 k3 l1 x8_3 ((rd_T58 l1 x8_3).f2.f0) t254 ((rd_T58 l1 x8_3).f2.f2) a0_0 l0_1 l0_2 x250000_3 x250001_3 x250002_3))) = some (r1, r2, r3, r4) := by rw [← hbq42] at H; exact H
      have Nbq42 := Aside0.mk hbq42
      clear hbq42
      (try rw [← Nbq42.out])
      by_cases c43 : (bq42 = true)
      case pos =>
       subst c43
       have H1 : (quadratref06_Cut.j3 k3 l1 x8_3 ((rd_T58 l1 x8_3).f1) 1 1 a0_0 l0_1 l0_2 x250000_3 x250001_3 x250002_3) = some (r1, r2, r3, r4) := by rw [if_pos rfl] at H; exact H
       clear H
       have H := H1
       clear H1
       have H' := Aside0.mk H
       clear H
       go_wp2
       go_meet
       case rel => exact ⟨_, ((rd_T58 l1 x8_3).f1), (1), (1), (by first | rfl | (simp; done) | (simp [*]; done)), (by first | rfl | (simp; done) | (simp [*]; done)), (by first | rfl | (simp; done) | (simp [*]; done)), H', ⟨by have := HJ2.out; have := HK2.out; have := HK3.out; first | omega | exact Nat.le_refl _⟩, ⟨by (with_reducible repeat first | apply Kd.R_alloc | apply Kd.R_drewN | apply Kd.R_drew); exact Kd.R_mono (Kd.R_far (p := ⟨gb252, 2, none⟩) (Kd.R_far (p := ⟨gb252, 1, none⟩) (Kd.R_far (p := ⟨gb252, 0, none⟩) (Kd.R_types HO_250001.out BK252.out (by decide)) (fun _ hk => hk.2) (.int .i64 ((rd_T58 l1 x8_3).f2.f0))) (fun _ hk => hk.2) (.int .i64 ((rd_T58 l1 x8_3).f2.f1))) (fun _ hk => hk.2) (.int .i64 ((rd_T58 l1 x8_3).f2.f2))) (fun _ hk => hk.1)⟩, ⟨by (with_reducible repeat first | apply Kd.R_alloc | apply Kd.R_drewN | apply Kd.R_drew); exact Kd.R_mono (Kd.R_far (p := ⟨gb252, 2, none⟩) (Kd.R_far (p := ⟨gb252, 1, none⟩) (Kd.R_far (p := ⟨gb252, 0, none⟩) (Kd.R_types HO_250002.out BK252.out (by decide)) (fun _ hk => hk.2) (.int .i64 ((rd_T58 l1 x8_3).f2.f0))) (fun _ hk => hk.2) (.int .i64 ((rd_T58 l1 x8_3).f2.f1))) (fun _ hk => hk.2) (.int .i64 ((rd_T58 l1 x8_3).f2.f2))) (fun _ hk => hk.1)⟩, ⟨by (with_reducible repeat first | apply blk_drewN | apply blk_drew | apply blk_alloc); refine blk_far ?_ NB243_252.out _; (with_reducible repeat first | apply blk_drewN | apply blk_drew | apply blk_alloc); refine blk_far ?_ NB243_252.out _; (with_reducible repeat first | apply blk_drewN | apply blk_drew | apply blk_alloc); refine blk_far ?_ NB243_252.out _; (with_reducible repeat first | apply blk_drewN | apply blk_drew | apply blk_alloc); exact BK243.out⟩, ⟨by (with_reducible repeat first | apply blk_drewN | apply blk_drew | apply blk_alloc); refine blk_far ?_ NB244_252.out _; (with_reducible repeat first | apply blk_drewN | apply blk_drew | apply blk_alloc); refine blk_far ?_ NB244_252.out _; (with_reducible repeat first | apply blk_drewN | apply blk_drew | apply blk_alloc); refine blk_far ?_ NB244_252.out _; (with_reducible repeat first | apply blk_drewN | apply blk_drew | apply blk_alloc); exact BK244.out⟩, ⟨by (with_reducible repeat first | apply blk_drewN | apply blk_drew | apply blk_alloc); refine blk_far ?_ NB249_252.out _; (with_reducible repeat first | apply blk_drewN | apply blk_drew | apply blk_alloc); refine blk_far ?_ NB249_252.out _; (with_reducible repeat first | apply blk_drewN | apply blk_drew | apply blk_alloc); refine blk_far ?_ NB249_252.out _; (with_reducible repeat first | apply blk_drewN | apply blk_drew | apply blk_alloc); exact BK249.out⟩, ⟨by (with_reducible repeat first | apply blk_drewN | apply blk_drew | apply blk_alloc); refine blk_put (cs := #[.int .i64 ((rd_T58 l1 x8_3).f2.f0), .int .i64 ((rd_T58 l1 x8_3).f2.f1), .int .i64 0]) ?_ 2 _ rfl; (with_reducible repeat first | apply blk_drewN | apply blk_drew | apply blk_alloc); refine blk_put (cs := #[.int .i64 ((rd_T58 l1 x8_3).f2.f0), .int .i64 0, .int .i64 0]) ?_ 1 _ rfl; (with_reducible repeat first | apply blk_drewN | apply blk_drew | apply blk_alloc); refine blk_put (cs := #[.int .i64 0, .int .i64 0, .int .i64 0]) ?_ 0 _ rfl; (with_reducible repeat first | apply blk_drewN | apply blk_drew | apply blk_alloc); exact BK252.out⟩, ⟨by repeat (first | (with_reducible first | exact HB.out | apply below_alloc | apply pw_below_drewN | apply below_drew1 | refine below_set ?_ GE243.out | refine below_set ?_ GE244.out | refine below_set ?_ GE249.out | refine below_set ?_ GE252.out) | exact HB.out)⟩⟩
      replace c43 := Bool.eq_false_iff.mpr c43
      subst c43
      have H1 : ((quadratref06_count.f ((rd_T58 l1 x8_3).f2.f0) ((rd_T58 l1 x8_3).f2.f1) ((rd_T58 l1 x8_3).f2.f2)).bind fun t254 => (quadratref06_Cut.j3 k3 l1 x8_3 ((rd_T58 l1 x8_3).f2.f0) t254 ((rd_T58 l1 x8_3).f2.f2) a0_0 l0_1 l0_2 x250000_3 x250001_3 x250002_3)) = some (r1, r2, r3, r4) := by rw [if_neg (show ¬ (false = true) by decide)] at H; exact H
      clear H
      have H := H1
      clear H1
      replace H := Option.bind_eq_some_iff.mp H
      obtain ⟨t254, A440, H⟩ := H
      replace H : (quadratref06_Cut.j3 k3 l1 x8_3 ((rd_T58 l1 x8_3).f2.f0) t254 ((rd_T58 l1 x8_3).f2.f2) a0_0 l0_1 l0_2 x250000_3 x250001_3 x250002_3) = some (r1, r2, r3, r4) := H
      have A44 := Aside0.mk A440
      clear A440
      have H' := Aside0.mk H
      clear H
      try go_wp2
      have n0_ : Aside0 (Kd.R (Kd.int .i64) 3 (((w37.setCell ⟨gb252, 0, none⟩ (.int .i64 ((rd_T58 l1 x8_3).f2.f0))).setCell ⟨gb252, 1, none⟩ (.int .i64 ((rd_T58 l1 x8_3).f2.f1))).setCell ⟨gb252, 2, none⟩ (.int .i64 ((rd_T58 l1 x8_3).f2.f2))) w.heap.size (fun k_ => some k_ ≠ (u250002 : Value).ownBlock) u250001 x250001_3) := ⟨by (with_reducible repeat first | apply Kd.R_alloc | apply Kd.R_drewN | apply Kd.R_drew); exact Kd.R_mono (Kd.R_far (p := ⟨gb252, 2, none⟩) (Kd.R_far (p := ⟨gb252, 1, none⟩) (Kd.R_far (p := ⟨gb252, 0, none⟩) (Kd.R_types HO_250001.out BK252.out (by decide)) (fun _ hk => hk.2) (.int .i64 ((rd_T58 l1 x8_3).f2.f0))) (fun _ hk => hk.2) (.int .i64 ((rd_T58 l1 x8_3).f2.f1))) (fun _ hk => hk.2) (.int .i64 ((rd_T58 l1 x8_3).f2.f2))) (fun _ hk => hk.1)⟩
      have n1_ : Aside0 (Kd.R (Kd.int .i64) 3 (((w37.setCell ⟨gb252, 0, none⟩ (.int .i64 ((rd_T58 l1 x8_3).f2.f0))).setCell ⟨gb252, 1, none⟩ (.int .i64 ((rd_T58 l1 x8_3).f2.f1))).setCell ⟨gb252, 2, none⟩ (.int .i64 ((rd_T58 l1 x8_3).f2.f2))) w.heap.size (fun k_ => some k_ ≠ (u250001 : Value).ownBlock) u250002 x250002_3) := ⟨by (with_reducible repeat first | apply Kd.R_alloc | apply Kd.R_drewN | apply Kd.R_drew); exact Kd.R_mono (Kd.R_far (p := ⟨gb252, 2, none⟩) (Kd.R_far (p := ⟨gb252, 1, none⟩) (Kd.R_far (p := ⟨gb252, 0, none⟩) (Kd.R_types HO_250002.out BK252.out (by decide)) (fun _ hk => hk.2) (.int .i64 ((rd_T58 l1 x8_3).f2.f0))) (fun _ hk => hk.2) (.int .i64 ((rd_T58 l1 x8_3).f2.f1))) (fun _ hk => hk.2) (.int .i64 ((rd_T58 l1 x8_3).f2.f2))) (fun _ hk => hk.1)⟩
      have n2_ : Aside0 ((((w37.setCell ⟨gb252, 0, none⟩ (.int .i64 ((rd_T58 l1 x8_3).f2.f0))).setCell ⟨gb252, 1, none⟩ (.int .i64 ((rd_T58 l1 x8_3).f2.f1))).setCell ⟨gb252, 2, none⟩ (.int .i64 ((rd_T58 l1 x8_3).f2.f2))).heap[gb243]? = some (.cells #[.int .i64 a0_0, .slice A0_1 l0_1.length c0_1, .slice A0_2 l0_2.length c0_2] 31 (0, 0))) := ⟨by (with_reducible repeat first | apply blk_drewN | apply blk_drew | apply blk_alloc); refine blk_far ?_ NB243_252.out _; (with_reducible repeat first | apply blk_drewN | apply blk_drew | apply blk_alloc); refine blk_far ?_ NB243_252.out _; (with_reducible repeat first | apply blk_drewN | apply blk_drew | apply blk_alloc); refine blk_far ?_ NB243_252.out _; (with_reducible repeat first | apply blk_drewN | apply blk_drew | apply blk_alloc); exact BK243.out⟩
      have n3_ : Aside0 ((((w37.setCell ⟨gb252, 0, none⟩ (.int .i64 ((rd_T58 l1 x8_3).f2.f0))).setCell ⟨gb252, 1, none⟩ (.int .i64 ((rd_T58 l1 x8_3).f2.f1))).setCell ⟨gb252, 2, none⟩ (.int .i64 ((rd_T58 l1 x8_3).f2.f2))).heap[gb244]? = some (.cells #[.int .i64 x245000_3, .slice none 0 0, .slice none 0 0] 31 (0, 0))) := ⟨by (with_reducible repeat first | apply blk_drewN | apply blk_drew | apply blk_alloc); refine blk_far ?_ NB244_252.out _; (with_reducible repeat first | apply blk_drewN | apply blk_drew | apply blk_alloc); refine blk_far ?_ NB244_252.out _; (with_reducible repeat first | apply blk_drewN | apply blk_drew | apply blk_alloc); refine blk_far ?_ NB244_252.out _; (with_reducible repeat first | apply blk_drewN | apply blk_drew | apply blk_alloc); exact BK244.out⟩
      have n4_ : Aside0 ((((w37.setCell ⟨gb252, 0, none⟩ (.int .i64 ((rd_T58 l1 x8_3).f2.f0))).setCell ⟨gb252, 1, none⟩ (.int .i64 ((rd_T58 l1 x8_3).f2.f1))).setCell ⟨gb252, 2, none⟩ (.int .i64 ((rd_T58 l1 x8_3).f2.f2))).heap[gb249]? = some (.cells #[.int .i64 x250000_3, u250001, u250002] 31 (0, 0))) := ⟨by (with_reducible repeat first | apply blk_drewN | apply blk_drew | apply blk_alloc); refine blk_far ?_ NB249_252.out _; (with_reducible repeat first | apply blk_drewN | apply blk_drew | apply blk_alloc); refine blk_far ?_ NB249_252.out _; (with_reducible repeat first | apply blk_drewN | apply blk_drew | apply blk_alloc); refine blk_far ?_ NB249_252.out _; (with_reducible repeat first | apply blk_drewN | apply blk_drew | apply blk_alloc); exact BK249.out⟩
      have n5_ : Aside0 ((((w37.setCell ⟨gb252, 0, none⟩ (.int .i64 ((rd_T58 l1 x8_3).f2.f0))).setCell ⟨gb252, 1, none⟩ (.int .i64 ((rd_T58 l1 x8_3).f2.f1))).setCell ⟨gb252, 2, none⟩ (.int .i64 ((rd_T58 l1 x8_3).f2.f2))).heap[gb252]? = some (.cells #[.int .i64 ((rd_T58 l1 x8_3).f2.f0), .int .i64 ((rd_T58 l1 x8_3).f2.f1), .int .i64 ((rd_T58 l1 x8_3).f2.f2)] 23 (0, 0))) := ⟨by (with_reducible repeat first | apply blk_drewN | apply blk_drew | apply blk_alloc); refine blk_put (cs := #[.int .i64 ((rd_T58 l1 x8_3).f2.f0), .int .i64 ((rd_T58 l1 x8_3).f2.f1), .int .i64 0]) ?_ 2 _ rfl; (with_reducible repeat first | apply blk_drewN | apply blk_drew | apply blk_alloc); refine blk_put (cs := #[.int .i64 ((rd_T58 l1 x8_3).f2.f0), .int .i64 0, .int .i64 0]) ?_ 1 _ rfl; (with_reducible repeat first | apply blk_drewN | apply blk_drew | apply blk_alloc); refine blk_put (cs := #[.int .i64 0, .int .i64 0, .int .i64 0]) ?_ 0 _ rfl; (with_reducible repeat first | apply blk_drewN | apply blk_drew | apply blk_alloc); exact BK252.out⟩
      have n6_ : Aside0 (Below w.heap.size w (((w37.setCell ⟨gb252, 0, none⟩ (.int .i64 ((rd_T58 l1 x8_3).f2.f0))).setCell ⟨gb252, 1, none⟩ (.int .i64 ((rd_T58 l1 x8_3).f2.f1))).setCell ⟨gb252, 2, none⟩ (.int .i64 ((rd_T58 l1 x8_3).f2.f2)))) := ⟨by repeat (first | (with_reducible first | exact HB.out | apply below_alloc | apply pw_below_drewN | apply below_drew1 | refine below_set ?_ GE243.out | refine below_set ?_ GE244.out | refine below_set ?_ GE249.out | refine below_set ?_ GE252.out) | exact HB.out)⟩
      (try clear HO_250001)
      (try clear HO_250002)
      (try clear BK243)
      (try clear BK244)
      (try clear BK249)
      (try clear BK252)
      (try clear HB)
      generalize (((w37.setCell ⟨gb252, 0, none⟩ (.int .i64 ((rd_T58 l1 x8_3).f2.f0))).setCell ⟨gb252, 1, none⟩ (.int .i64 ((rd_T58 l1 x8_3).f2.f1))).setCell ⟨gb252, 2, none⟩ (.int .i64 ((rd_T58 l1 x8_3).f2.f2))) = w45 at n0_ n1_ n2_ n3_ n4_ n5_ n6_ ⊢
      have HO_250001 := n0_
      have HO_250002 := n1_
      have BK243 := n2_
      have BK244 := n3_
      have BK249 := n4_
      have BK252 := n5_
      have HB := n6_
      clear n0_ n1_ n2_ n3_ n4_ n5_ n6_
      have n0_ := Aside0.mk (Kd.R_drew HO_250001.out)
      have n1_ := Aside0.mk (Kd.R_drew HO_250002.out)
      have n2_ := Aside0.mk (blk_drew BK243.out)
      have n3_ := Aside0.mk (blk_drew BK244.out)
      have n4_ := Aside0.mk (blk_drew BK249.out)
      have n5_ := Aside0.mk (blk_drew BK252.out)
      have n6_ := Aside0.mk (below_drew1 HB.out)
      clear HO_250001
      clear HO_250002
      clear BK243
      clear BK244
      clear BK249
      clear BK252
      clear HB
      have HO_250001 := n0_
      have HO_250002 := n1_
      have BK243 := n2_
      have BK244 := n3_
      have BK249 := n4_
      have BK252 := n5_
      have HB := n6_
      clear n0_ n1_ n2_ n3_ n4_ n5_ n6_
      refine start_ (n := 9) (S := fun w' => w'.cell? ⟨gb252, 0, none⟩ = some (.int .i64 ((rd_T58 l1 x8_3).f2.f0)) ∧ w'.cell? ⟨gb252, 1, none⟩ = some (.int .i64 ((rd_T58 l1 x8_3).f2.f1)) ∧ w'.cell? ⟨gb252, 2, none⟩ = some (.int .i64 ((rd_T58 l1 x8_3).f2.f2))) (ds := []) #[false, false, false, false, false, false, false, false, false] (by kernel_rfl) rfl rfl ⟨(blk_cell BK252.out 0).trans rfl, (blk_cell BK252.out 1).trans rfl, (blk_cell BK252.out 2).trans rfl⟩ (fun hHeld => ?_); refine with_tabW quadratref06_Cut.tab15 quadratref06_Cut.bits15 (fun HT_ HW_ => ?_)
      generalize w45.drew = w46 at HO_250001 HO_250002 BK243 BK244 BK249 BK252 HB hHeld ⊢
      refine pure_ (i := 0) (N := some 73) (v := ?_) (a' := ?_) #[true, false, false, false, false, false, false, false, false] rfl rfl (any_of HT_.out (by kernel_rfl)) (fun _ _ _ h => h) (Or.inl ⟨by rfl, ?_⟩) ?_ ?_
      rotate_left
      · intro w'; go_simp; with_reducible rfl
      rotate_left
      · simp only [Act.put, List.setIfInBounds_toArray, List.set_cons_zero, List.set_cons_succ, i64_w, i32_w]; rfl
      refine pure_ (i := 4) (N := some 77) (v := ?_) (a' := ?_) #[true, false, false, false, true, false, false, false, false] rfl rfl (any_of HT_.out (by kernel_rfl)) (fun _ _ _ h => h) (Or.inl ⟨by rfl, ?_⟩) ?_ ?_
      rotate_left
      · intro w'; go_simp; with_reducible rfl
      rotate_left
      · simp only [Act.put, List.setIfInBounds_toArray, List.set_cons_zero, List.set_cons_succ, i64_w, i32_w]; rfl
      refine take_ (i := 1) (N := some 74) (v := ?_) (a' := ?_) #[true, true, false, false, true, false, false, false, false] rfl rfl (take_ofW HT_.out HW_.out (by kernel_rfl)) (fun _ _ _ h => h) (Or.inl ⟨by rfl, ?_⟩) hHeld ?_ ?_
      rotate_left
      · rintro w' ⟨s0, s1, s2⟩
        go_simp
        with_reducible rfl
      rotate_left
      · simp only [Act.put, List.setIfInBounds_toArray, List.set_cons_zero, List.set_cons_succ, i64_w, i32_w]; rfl
      refine take_ (i := 2) (N := some 75) (v := ?_) (a' := ?_) #[true, true, true, false, true, false, false, false, false] rfl rfl (take_ofW HT_.out HW_.out (by kernel_rfl)) (fun _ _ _ h => h) (Or.inl ⟨by rfl, ?_⟩) hHeld ?_ ?_
      rotate_left
      · rintro w' ⟨s0, s1, s2⟩
        go_simp
        with_reducible rfl
      rotate_left
      · simp only [Act.put, List.setIfInBounds_toArray, List.set_cons_zero, List.set_cons_succ, i64_w, i32_w]; rfl
      refine take_ (i := 5) (N := some 78) (v := ?_) (a' := ?_) #[true, true, true, false, true, true, false, false, false] rfl rfl (take_ofW HT_.out HW_.out (by kernel_rfl)) (fun _ _ _ h => h) (Or.inl ⟨by rfl, ?_⟩) hHeld ?_ ?_
      rotate_left
      · rintro w' ⟨s0, s1, s2⟩
        go_simp
        with_reducible rfl
      rotate_left
      · simp only [Act.put, List.setIfInBounds_toArray, List.set_cons_zero, List.set_cons_succ, i64_w, i32_w]; rfl
      refine one_ (i := 3) (N := some 76) #[true, true, true, true, true, true, false, false, false] rfl rfl (one_of HT_.out (by kernel_rfl)) (by decide) (fun K hK => ?_)
      refine goes_ Try.func45 (by kernel_rfl) rfl #[.agg #[.int .i64 ((rd_T58 l1 x8_3).f2.f0), .int .i64 ((rd_T58 l1 x8_3).f2.f1), .int .i64 ((rd_T58 l1 x8_3).f2.f2)]] (by rfl) rfl rfl (by (try simp only [List.map_toArray, List.map_cons, List.map_nil]); first | done | rfl | (simp only [List.length_drop, List.length_take]; rfl)) ?_
      with_reducible refine (quadratref06_count.calls ((rd_T58 l1 x8_3).f2.f0) ((rd_T58 l1 x8_3).f2.f1) ((rd_T58 l1 x8_3).f2.f2) t254 _ A44.out).mono ?_
      rintro e w47 ⟨rfl, hb⟩
      refine ⟨_, rfl, ?_⟩
      have n0_ := Aside0.mk (Kd.R_below (by (with_reducible repeat first | apply Kd.R_alloc | apply Kd.R_drewN | apply Kd.R_drew); exact HO_250001.out) hb)
      have n1_ := Aside0.mk (Kd.R_below (by (with_reducible repeat first | apply Kd.R_alloc | apply Kd.R_drewN | apply Kd.R_drew); exact HO_250002.out) hb)
      have n2_ := Aside0.mk (blk_below (g := gb243) (o := .cells #[.int .i64 a0_0, .slice A0_1 l0_1.length c0_1, .slice A0_2 l0_2.length c0_2] 31 (0, 0)) (by (with_reducible repeat first | apply blk_drewN | apply blk_drew | apply blk_alloc); exact BK243.out) hb)
      have n3_ := Aside0.mk (blk_below (g := gb244) (o := .cells #[.int .i64 x245000_3, .slice none 0 0, .slice none 0 0] 31 (0, 0)) (by (with_reducible repeat first | apply blk_drewN | apply blk_drew | apply blk_alloc); exact BK244.out) hb)
      have n4_ := Aside0.mk (blk_below (g := gb249) (o := .cells #[.int .i64 x250000_3, u250001, u250002] 31 (0, 0)) (by (with_reducible repeat first | apply blk_drewN | apply blk_drew | apply blk_alloc); exact BK249.out) hb)
      have n5_ := Aside0.mk (blk_below (g := gb252) (o := .cells #[.int .i64 ((rd_T58 l1 x8_3).f2.f0), .int .i64 ((rd_T58 l1 x8_3).f2.f1), .int .i64 ((rd_T58 l1 x8_3).f2.f2)] 23 (0, 0)) (by (with_reducible repeat first | apply blk_drewN | apply blk_drew | apply blk_alloc); exact BK252.out) hb)
      have n6_ := Aside0.mk (below_step (by repeat (first | (with_reducible first | exact HB.out | apply below_alloc | apply pw_below_drewN | apply below_drew1 | refine below_set ?_ GE243.out | refine below_set ?_ GE244.out | refine below_set ?_ GE249.out | refine below_set ?_ GE252.out) | exact HB.out)) hb)
      clear HO_250001
      clear HO_250002
      clear BK243
      clear BK244
      clear BK249
      clear BK252
      clear HB
      have HO_250001 := n0_
      have HO_250002 := n1_
      have BK243 := n2_
      have BK244 := n3_
      have BK249 := n4_
      have BK252 := n5_
      have HB := n6_
      clear n0_ n1_ n2_ n3_ n4_ n5_ n6_
      (try clear hb)
      (try clear hb2)
      (try clear hk)
      (try clear hi)
      refine hK.out _ _ ⟨(blk_cell BK252.out 0).trans rfl, (blk_cell BK252.out 1).trans rfl, (blk_cell BK252.out 2).trans rfl⟩ (fun hHeld => ?_)
      clear hK K
      refine norm_ (a' := ?_) ?_ ?_
      rotate_left
      · show Act.put _ (some 76) _ = _
        simp only [Act.put, List.setIfInBounds_toArray, List.set_cons_zero, List.set_cons_succ, i64_w, i32_w]
        rfl
      refine pure_ (i := 6) (N := some 9) (v := ?_) (a' := ?_) #[true, true, true, true, true, true, true, false, false] rfl rfl (any_of HT_.out (by kernel_rfl)) (fun _ _ _ h => h) (Or.inl ⟨by rfl, ?_⟩) ?_ ?_
      rotate_left
      · intro w'; go_simp; with_reducible rfl
      rotate_left
      · simp only [Act.put, List.setIfInBounds_toArray, List.set_cons_zero, List.set_cons_succ, i64_w, i32_w]; rfl
      refine pure_ (i := 7) (N := some 10) (v := ?_) (a' := ?_) #[true, true, true, true, true, true, true, true, false] rfl rfl (any_of HT_.out (by kernel_rfl)) (fun _ _ _ h => h) (Or.inl ⟨by rfl, ?_⟩) ?_ ?_
      rotate_left
      · intro w'; go_simp; with_reducible rfl
      rotate_left
      · simp only [Act.put, List.setIfInBounds_toArray, List.set_cons_zero, List.set_cons_succ, i64_w, i32_w]; rfl
      refine pure_ (i := 8) (N := some 11) (v := ?_) (a' := ?_) #[true, true, true, true, true, true, true, true, true] rfl rfl (any_of HT_.out (by kernel_rfl)) (fun _ _ _ h => h) (Or.inl ⟨by rfl, ?_⟩) ?_ ?_
      rotate_left
      · intro w'; go_simp; with_reducible rfl
      rotate_left
      · simp only [Act.put, List.setIfInBounds_toArray, List.set_cons_zero, List.set_cons_succ, i64_w, i32_w]; rfl
      refine done_ (done_of HT_.out (by kernel_rfl)) ?_
      try go_wp2
      go_meet
      case rel => exact ⟨_, ((rd_T58 l1 x8_3).f2.f0), (t254), ((rd_T58 l1 x8_3).f2.f2), (by first | rfl | (simp; done) | (simp [*]; done)), (by first | rfl | (simp; done) | (simp [*]; done)), (by first | rfl | (simp; done) | (simp [*]; done)), H', ⟨by have := HJ2.out; have := HK2.out; have := HK3.out; first | omega | exact Nat.le_refl _⟩, ⟨by (with_reducible repeat first | apply Kd.R_alloc | apply Kd.R_drewN | apply Kd.R_drew); exact HO_250001.out⟩, ⟨by (with_reducible repeat first | apply Kd.R_alloc | apply Kd.R_drewN | apply Kd.R_drew); exact HO_250002.out⟩, ⟨by (with_reducible repeat first | apply blk_drewN | apply blk_drew | apply blk_alloc); exact BK243.out⟩, ⟨by (with_reducible repeat first | apply blk_drewN | apply blk_drew | apply blk_alloc); exact BK244.out⟩, ⟨by (with_reducible repeat first | apply blk_drewN | apply blk_drew | apply blk_alloc); exact BK249.out⟩, ⟨by (with_reducible repeat first | apply blk_drewN | apply blk_drew | apply blk_alloc); exact BK252.out⟩, ⟨by repeat (first | (with_reducible first | exact HB.out | apply below_alloc | apply pw_below_drewN | apply below_drew1 | refine below_set ?_ GE243.out | refine below_set ?_ GE244.out | refine below_set ?_ GE249.out | refine below_set ?_ GE252.out) | exact HB.out)⟩⟩
     clear HC36
     try clear c1
     try clear c2
     try clear p2
     try clear q2
     try clear hx2
     try clear c3
     try clear c4
     try clear q4
     try clear p6
     try clear c7
     try clear c8
     try clear c12
     try clear c15
     try clear c16
     try clear c18
     try clear c18b0
     try clear c19
     try clear c19b0
     try clear q20
     try clear c21
     try clear c23
     try clear c24
     try clear p24
     try clear q24
     try clear hx24
     try clear p25
     try clear q25
     try clear hx25
     try clear c26
     try clear c28
     try clear c31
     try clear c32
     try clear c34
     try clear c34b0
     try clear c35
     try clear c35b0
     try clear c38
     try clear c39
     try clear c40
     try clear q42
     try clear c43
     try clear c45
     try clear hcz11_0
     try clear hcz11_1
     try clear hcz11_2
     try clear hcz13_0
     try clear hcz13_1
     try clear hcz13_2
     try clear hcz17_0
     try clear hcz17_1
     try clear hcz17_2
     try clear hcz27_0
     try clear hcz27_1
     try clear hcz27_2
     try clear hcz29_0
     try clear hcz29_1
     try clear hcz29_2
     try clear hcz33_0
     try clear hcz33_1
     try clear hcz33_2
     try clear hcz41_0
     try clear hcz41_1
     try clear hcz41_2
     try clear hcz9_0
     try clear hcz9_1
     try clear hcz9_2
     try clear hfz11_0
     try clear hfz11_1
     try clear hfz11_2
     try clear hfz13_0
     try clear hfz13_1
     try clear hfz13_2
     try clear hfz17_0
     try clear hfz17_1
     try clear hfz17_2
     try clear hfz27_0
     try clear hfz27_1
     try clear hfz27_2
     try clear hfz29_0
     try clear hfz29_1
     try clear hfz29_2
     try clear hfz33_0
     try clear hfz33_1
     try clear hfz33_2
     try clear hfz41_0
     try clear hfz41_1
     try clear hfz41_2
     try clear hfz9_0
     try clear hfz9_1
     try clear hfz9_2
     try clear hx246_0
     try clear hx246_1
     try clear hx246_2
     try clear hx246_3
     try clear hx246_4
     try clear hx247_0
     try clear hx247_1
     try clear hx247_2
     try clear hx247_3
     try clear hx247_4
     try clear hx250_0
     try clear hx250_1
     try clear hx250_2
     try clear hx250_3
     try clear hx250_4
     try clear hx251_0
     try clear hx251_1
     try clear hx251_2
     try clear hx251_3
     try clear hx251_4
     try clear hx253_0
     try clear hx253_1
     try clear hx253_2
     try clear hx253_3
     try clear hx253_4
     try clear p2
     try clear p24
     try clear p246
     try clear p247
     try clear p250
     try clear p251
     try clear p253
     try clear p6
     try clear q2
     try clear q20
     try clear q24
     try clear q246
     try clear q247
     try clear q250
     try clear q251
     try clear q253
     obtain ⟨kq, x9_35, x10_35, x11_35, rfl, rfl, rfl, HA, HJ35, HO_250001, HO_250002, BK243, BK244, BK249, BK252, HB⟩ := hcut
     cases kq with
     | zero => exact absurd HA.out (by simp [quadratref06_Cut.j3])
     | succ kj35 =>
      have H := HA.out
      clear HA
      simp only [quadratref06_Cut.j3] at H
      have HC48 := Aside0.mk H
      clear H
      go_upto_region 17 with (fail)
      go_cut [112] (fun v112 wc => ∃ (kq : Nat) (x112_47 : Bool), v112 = .bool x112_47 ∧ Aside0 (quadratref06_Cut.j4 kq l1 x8_3 x9_35 x10_35 x11_35 x112_47 a0_0 l0_1 l0_2 x250000_3 x250001_3 x250002_3 = some (r1, r2, r3, r4)) ∧ Aside0 (kq ≤ kj35) ∧ Aside0 (Kd.R (Kd.int .i64) 3 wc w.heap.size (fun k_ => some k_ ≠ (u250002 : Value).ownBlock) u250001 x250001_3) ∧ Aside0 (Kd.R (Kd.int .i64) 3 wc w.heap.size (fun k_ => some k_ ≠ (u250001 : Value).ownBlock) u250002 x250002_3) ∧ Aside0 (wc.heap[gb243]? = some (.cells #[.int .i64 a0_0, (.slice A0_1 l0_1.length c0_1), (.slice A0_2 l0_2.length c0_2)] 31 (0, 0))) ∧ Aside0 (wc.heap[gb244]? = some (.cells #[.int .i64 x245000_3, (.slice none 0 0), (.slice none 0 0)] 31 (0, 0))) ∧ Aside0 (wc.heap[gb249]? = some (.cells #[.int .i64 x250000_3, u250001, u250002] 31 (0, 0))) ∧ Aside0 (wc.heap[gb252]? = some (.cells #[.int .i64 ((rd_T58 l1 x8_3).f2.f0), .int .i64 ((rd_T58 l1 x8_3).f2.f1), .int .i64 ((rd_T58 l1 x8_3).f2.f2)] 23 (0, 0))) ∧ Aside0 (Below w.heap.size w wc))
      case first =>
       have H := HC48.out
       clear HC48
       by_cases c49 : x10_35 > 0
       case neg =>
        rw [if_neg c49] at H
        have c49b0 : decide (0 < x10_35) = false := decide_eq_false c49
        clear c49
        (first | rw [c49b0] | (simp only [i64_w, i32_w]; rw [c49b0]) | skip)
        have H' := Aside0.mk H
        clear H
        go_wp2
        go_meet
        case rel => exact ⟨_, (false), (by first | rfl | (simp; done) | (simp [*]; done)), H', ⟨by have := HJ2.out; have := HK2.out; have := HK3.out; have := HJ35.out; first | omega | exact Nat.le_refl _⟩, ⟨by (with_reducible repeat first | apply Kd.R_alloc | apply Kd.R_drewN | apply Kd.R_drew); exact HO_250001.out⟩, ⟨by (with_reducible repeat first | apply Kd.R_alloc | apply Kd.R_drewN | apply Kd.R_drew); exact HO_250002.out⟩, ⟨by (with_reducible repeat first | apply blk_drewN | apply blk_drew | apply blk_alloc); exact BK243.out⟩, ⟨by (with_reducible repeat first | apply blk_drewN | apply blk_drew | apply blk_alloc); exact BK244.out⟩, ⟨by (with_reducible repeat first | apply blk_drewN | apply blk_drew | apply blk_alloc); exact BK249.out⟩, ⟨by (with_reducible repeat first | apply blk_drewN | apply blk_drew | apply blk_alloc); exact BK252.out⟩, ⟨by repeat (first | (with_reducible first | exact HB.out | apply below_alloc | apply pw_below_drewN | apply below_drew1 | refine below_set ?_ GE243.out | refine below_set ?_ GE244.out | refine below_set ?_ GE249.out | refine below_set ?_ GE252.out) | exact HB.out)⟩⟩
       rw [if_pos c49] at H
       have c49b0 : decide (0 < x10_35) = true := decide_eq_true c49
       clear c49
       (first | rw [c49b0] | (simp only [i64_w, i32_w]; rw [c49b0]) | skip)
       by_cases c50 : x9_35 < 0
       case pos =>
        rw [if_pos c50] at H
        have c50b0 : decide (x9_35 < 0) = true := decide_eq_true c50
        clear c50
        have H' := Aside0.mk H
        clear H
        go_wp2
        go_meet
        case rel => exact ⟨_, (true), (by first | rfl | (simp; done) | (simp [*]; done)), H', ⟨by have := HJ2.out; have := HK2.out; have := HK3.out; have := HJ35.out; first | omega | exact Nat.le_refl _⟩, ⟨by (with_reducible repeat first | apply Kd.R_alloc | apply Kd.R_drewN | apply Kd.R_drew); exact HO_250001.out⟩, ⟨by (with_reducible repeat first | apply Kd.R_alloc | apply Kd.R_drewN | apply Kd.R_drew); exact HO_250002.out⟩, ⟨by (with_reducible repeat first | apply blk_drewN | apply blk_drew | apply blk_alloc); exact BK243.out⟩, ⟨by (with_reducible repeat first | apply blk_drewN | apply blk_drew | apply blk_alloc); exact BK244.out⟩, ⟨by (with_reducible repeat first | apply blk_drewN | apply blk_drew | apply blk_alloc); exact BK249.out⟩, ⟨by (with_reducible repeat first | apply blk_drewN | apply blk_drew | apply blk_alloc); exact BK252.out⟩, ⟨by repeat (first | (with_reducible first | exact HB.out | apply below_alloc | apply pw_below_drewN | apply below_drew1 | refine below_set ?_ GE243.out | refine below_set ?_ GE244.out | refine below_set ?_ GE249.out | refine below_set ?_ GE252.out) | exact HB.out)⟩⟩
       rw [if_neg c50] at H
       have c50b0 : decide (x9_35 < 0) = false := decide_eq_false c50
       clear c50
       by_cases c51 : 0 ≤ x8_3
       case neg =>
        rw [if_neg c51] at H
        exact absurd H (by simp)
       rw [if_pos c51] at H
       have c51b0 : decide (0 ≤ x8_3) = true := decide_eq_true c51
       clear c51
       by_cases c52 : x8_3 < (l0_1.length : Int)
       case neg =>
        rw [if_neg c52] at H
        exact absurd H (by simp)
       rw [if_pos c52] at H
       have c52b0 : decide (x8_3 < (l0_1.length : Int)) = true := decide_eq_true c52
       clear c52
       by_cases c53 : x9_35 ≥ (rd l0_1 x8_3)
       case pos =>
        rw [if_pos c53] at H
        have c53b0 : decide ((rd l0_1 x8_3) ≤ x9_35) = true := decide_eq_true c53
        clear c53
        have H' := Aside0.mk H
        clear H
        have hnb54 := NB243_244.out
        have hnc54 := NB244_243.out
        have hnb55 := NB243_249.out
        have hnc55 := NB249_243.out
        have hnb56 := NB243_252.out
        have hnc56 := NB252_243.out
        have hcz57_0 : wc.cell? ⟨gb243, 0, none⟩ = some (.int .i64 a0_0) := (blk_cell BK243.out 0).trans rfl
        have hcz57_1 : wc.cell? ⟨gb243, 1, none⟩ = some (.slice A0_1 l0_1.length c0_1) := (blk_cell BK243.out 1).trans rfl
        have hcz57_2 : wc.cell? ⟨gb243, 2, none⟩ = some (.slice A0_2 l0_2.length c0_2) := (blk_cell BK243.out 2).trans rfl
        have hfz57_0 := blk_frozen BK243.out 0
        have hfz57_1 := blk_frozen BK243.out 1
        have hfz57_2 := blk_frozen BK243.out 2
        have p255 : 0 ≤ (x8_3 : Int) := of_decide_eq_true (by first | (with_reducible assumption) | assumption)
        have q255 : x8_3 < (l0_1.length : Int) := of_decide_eq_true (by first | (with_reducible assumption) | assumption)
        obtain ⟨ad255, e255, hx255_0⟩ := Kd.at_int HR0_1.out x8_3 p255 q255
        cases e255
        replace hx255_0 := (HB.out.cell (World.block_lt_of_cell? w _ hx255_0)).trans hx255_0
        replace p255 := eq_true p255
        replace q255 := eq_true q255
        go_wp2
        go_meet
        case rel => exact ⟨_, (true), (by first | rfl | (simp; done) | (simp [*]; done)), H', ⟨by have := HJ2.out; have := HK2.out; have := HK3.out; have := HJ35.out; first | omega | exact Nat.le_refl _⟩, ⟨by (with_reducible repeat first | apply Kd.R_alloc | apply Kd.R_drewN | apply Kd.R_drew); exact HO_250001.out⟩, ⟨by (with_reducible repeat first | apply Kd.R_alloc | apply Kd.R_drewN | apply Kd.R_drew); exact HO_250002.out⟩, ⟨by (with_reducible repeat first | apply blk_drewN | apply blk_drew | apply blk_alloc); exact BK243.out⟩, ⟨by (with_reducible repeat first | apply blk_drewN | apply blk_drew | apply blk_alloc); exact BK244.out⟩, ⟨by (with_reducible repeat first | apply blk_drewN | apply blk_drew | apply blk_alloc); exact BK249.out⟩, ⟨by (with_reducible repeat first | apply blk_drewN | apply blk_drew | apply blk_alloc); exact BK252.out⟩, ⟨by repeat (first | (with_reducible first | exact HB.out | apply below_alloc | apply pw_below_drewN | apply below_drew1 | refine below_set ?_ GE243.out | refine below_set ?_ GE244.out | refine below_set ?_ GE249.out | refine below_set ?_ GE252.out) | exact HB.out)⟩⟩
       rw [if_neg c53] at H
       have c53b0 : decide ((rd l0_1 x8_3) ≤ x9_35) = false := decide_eq_false c53
       clear c53
       by_cases c58 : (wrap64 (x9_35 + (wrap64 ((wrap64 (x10_35 - 1)) * x11_35)))) < 0
       case pos =>
        rw [if_pos c58] at H
        have c58b0 : decide ((wrap64 (x9_35 + (wrap64 ((wrap64 (x10_35 - 1)) * x11_35)))) < 0) = true := decide_eq_true c58
        clear c58
        have H' := Aside0.mk H
        clear H
        have hnb59 := NB243_244.out
        have hnc59 := NB244_243.out
        have hnb60 := NB243_249.out
        have hnc60 := NB249_243.out
        have hnb61 := NB243_252.out
        have hnc61 := NB252_243.out
        have hcz62_0 : wc.cell? ⟨gb243, 0, none⟩ = some (.int .i64 a0_0) := (blk_cell BK243.out 0).trans rfl
        have hcz62_1 : wc.cell? ⟨gb243, 1, none⟩ = some (.slice A0_1 l0_1.length c0_1) := (blk_cell BK243.out 1).trans rfl
        have hcz62_2 : wc.cell? ⟨gb243, 2, none⟩ = some (.slice A0_2 l0_2.length c0_2) := (blk_cell BK243.out 2).trans rfl
        have hfz62_0 := blk_frozen BK243.out 0
        have hfz62_1 := blk_frozen BK243.out 1
        have hfz62_2 := blk_frozen BK243.out 2
        have p255 : 0 ≤ (x8_3 : Int) := of_decide_eq_true (by first | (with_reducible assumption) | assumption)
        have q255 : x8_3 < (l0_1.length : Int) := of_decide_eq_true (by first | (with_reducible assumption) | assumption)
        obtain ⟨ad255, e255, hx255_0⟩ := Kd.at_int HR0_1.out x8_3 p255 q255
        cases e255
        replace hx255_0 := (HB.out.cell (World.block_lt_of_cell? w _ hx255_0)).trans hx255_0
        replace p255 := eq_true p255
        replace q255 := eq_true q255
        go_wp2
        go_meet
        case rel => exact ⟨_, (true), (by first | rfl | (simp; done) | (simp [*]; done)), H', ⟨by have := HJ2.out; have := HK2.out; have := HK3.out; have := HJ35.out; first | omega | exact Nat.le_refl _⟩, ⟨by (with_reducible repeat first | apply Kd.R_alloc | apply Kd.R_drewN | apply Kd.R_drew); exact HO_250001.out⟩, ⟨by (with_reducible repeat first | apply Kd.R_alloc | apply Kd.R_drewN | apply Kd.R_drew); exact HO_250002.out⟩, ⟨by (with_reducible repeat first | apply blk_drewN | apply blk_drew | apply blk_alloc); exact BK243.out⟩, ⟨by (with_reducible repeat first | apply blk_drewN | apply blk_drew | apply blk_alloc); exact BK244.out⟩, ⟨by (with_reducible repeat first | apply blk_drewN | apply blk_drew | apply blk_alloc); exact BK249.out⟩, ⟨by (with_reducible repeat first | apply blk_drewN | apply blk_drew | apply blk_alloc); exact BK252.out⟩, ⟨by repeat (first | (with_reducible first | exact HB.out | apply below_alloc | apply pw_below_drewN | apply below_drew1 | refine below_set ?_ GE243.out | refine below_set ?_ GE244.out | refine below_set ?_ GE249.out | refine below_set ?_ GE252.out) | exact HB.out)⟩⟩
       rw [if_neg c58] at H
       have c58b0 : decide ((wrap64 (x9_35 + (wrap64 ((wrap64 (x10_35 - 1)) * x11_35)))) < 0) = false := decide_eq_false c58
       clear c58
       have H' := Aside0.mk H
       clear H
       have hnb63 := NB243_244.out
       have hnc63 := NB244_243.out
       have hnb64 := NB243_249.out
       have hnc64 := NB249_243.out
       have hnb65 := NB243_252.out
       have hnc65 := NB252_243.out
       have hcz66_0 : wc.cell? ⟨gb243, 0, none⟩ = some (.int .i64 a0_0) := (blk_cell BK243.out 0).trans rfl
       have hcz66_1 : wc.cell? ⟨gb243, 1, none⟩ = some (.slice A0_1 l0_1.length c0_1) := (blk_cell BK243.out 1).trans rfl
       have hcz66_2 : wc.cell? ⟨gb243, 2, none⟩ = some (.slice A0_2 l0_2.length c0_2) := (blk_cell BK243.out 2).trans rfl
       have hfz66_0 := blk_frozen BK243.out 0
       have hfz66_1 := blk_frozen BK243.out 1
       have hfz66_2 := blk_frozen BK243.out 2
       have p255 : 0 ≤ (x8_3 : Int) := of_decide_eq_true (by first | (with_reducible assumption) | assumption)
       have q255 : x8_3 < (l0_1.length : Int) := of_decide_eq_true (by first | (with_reducible assumption) | assumption)
       obtain ⟨ad255, e255, hx255_0⟩ := Kd.at_int HR0_1.out x8_3 p255 q255
       cases e255
       replace hx255_0 := (HB.out.cell (World.block_lt_of_cell? w _ hx255_0)).trans hx255_0
       replace p255 := eq_true p255
       replace q255 := eq_true q255
       have p256 : 0 ≤ (x8_3 : Int) := of_decide_eq_true (by first | (with_reducible assumption) | assumption)
       have q256 : x8_3 < (l0_1.length : Int) := of_decide_eq_true (by first | (with_reducible assumption) | assumption)
       obtain ⟨ad256, e256, hx256_0⟩ := Kd.at_int HR0_1.out x8_3 p256 q256
       obtain rfl : ad255 = ad256 := (by injection e256)
       replace hx256_0 := (HB.out.cell (World.block_lt_of_cell? w _ hx256_0)).trans hx256_0
       replace p256 := eq_true p256
       replace q256 := eq_true q256
       go_wp2
       go_meet
       case rel => exact ⟨_, (decide ((wrap64 (x9_35 + (wrap64 ((wrap64 (x10_35 - 1)) * x11_35)))) ≥ (rd l0_1 x8_3))), (by first | rfl | (simp; done) | (simp [*]; done)), H', ⟨by have := HJ2.out; have := HK2.out; have := HK3.out; have := HJ35.out; first | omega | exact Nat.le_refl _⟩, ⟨by (with_reducible repeat first | apply Kd.R_alloc | apply Kd.R_drewN | apply Kd.R_drew); exact HO_250001.out⟩, ⟨by (with_reducible repeat first | apply Kd.R_alloc | apply Kd.R_drewN | apply Kd.R_drew); exact HO_250002.out⟩, ⟨by (with_reducible repeat first | apply blk_drewN | apply blk_drew | apply blk_alloc); exact BK243.out⟩, ⟨by (with_reducible repeat first | apply blk_drewN | apply blk_drew | apply blk_alloc); exact BK244.out⟩, ⟨by (with_reducible repeat first | apply blk_drewN | apply blk_drew | apply blk_alloc); exact BK249.out⟩, ⟨by (with_reducible repeat first | apply blk_drewN | apply blk_drew | apply blk_alloc); exact BK252.out⟩, ⟨by repeat (first | (with_reducible first | exact HB.out | apply below_alloc | apply pw_below_drewN | apply below_drew1 | refine below_set ?_ GE243.out | refine below_set ?_ GE244.out | refine below_set ?_ GE249.out | refine below_set ?_ GE252.out) | exact HB.out)⟩⟩
      clear HC48
      try clear c1
      try clear c2
      try clear p2
      try clear q2
      try clear hx2
      try clear c3
      try clear c4
      try clear q4
      try clear c5
      try clear c6
      try clear p6
      try clear c7
      try clear c8
      try clear c12
      try clear c15
      try clear c16
      try clear c18
      try clear c18b0
      try clear c19
      try clear c19b0
      try clear q20
      try clear c21
      try clear c23
      try clear c24
      try clear p24
      try clear q24
      try clear hx24
      try clear p25
      try clear q25
      try clear hx25
      try clear c26
      try clear c28
      try clear c31
      try clear c32
      try clear c34
      try clear c34b0
      try clear c35
      try clear c35b0
      try clear c38
      try clear c39
      try clear c40
      try clear q42
      try clear c43
      try clear c45
      try clear c49
      try clear c49b0
      try clear c50
      try clear c50b0
      try clear c51
      try clear c51b0
      try clear c52
      try clear c52b0
      try clear c53
      try clear c53b0
      try clear c54
      try clear c55
      try clear c56
      try clear c58
      try clear c58b0
      try clear c59
      try clear c60
      try clear c61
      try clear c63
      try clear c64
      try clear p64
      try clear c65
      try clear hcz11_0
      try clear hcz11_1
      try clear hcz11_2
      try clear hcz13_0
      try clear hcz13_1
      try clear hcz13_2
      try clear hcz17_0
      try clear hcz17_1
      try clear hcz17_2
      try clear hcz27_0
      try clear hcz27_1
      try clear hcz27_2
      try clear hcz29_0
      try clear hcz29_1
      try clear hcz29_2
      try clear hcz33_0
      try clear hcz33_1
      try clear hcz33_2
      try clear hcz41_0
      try clear hcz41_1
      try clear hcz41_2
      try clear hcz57_0
      try clear hcz57_1
      try clear hcz57_2
      try clear hcz62_0
      try clear hcz62_1
      try clear hcz62_2
      try clear hcz66_0
      try clear hcz66_1
      try clear hcz66_2
      try clear hcz9_0
      try clear hcz9_1
      try clear hcz9_2
      try clear hfz11_0
      try clear hfz11_1
      try clear hfz11_2
      try clear hfz13_0
      try clear hfz13_1
      try clear hfz13_2
      try clear hfz17_0
      try clear hfz17_1
      try clear hfz17_2
      try clear hfz27_0
      try clear hfz27_1
      try clear hfz27_2
      try clear hfz29_0
      try clear hfz29_1
      try clear hfz29_2
      try clear hfz33_0
      try clear hfz33_1
      try clear hfz33_2
      try clear hfz41_0
      try clear hfz41_1
      try clear hfz41_2
      try clear hfz57_0
      try clear hfz57_1
      try clear hfz57_2
      try clear hfz62_0
      try clear hfz62_1
      try clear hfz62_2
      try clear hfz66_0
      try clear hfz66_1
      try clear hfz66_2
      try clear hfz9_0
      try clear hfz9_1
      try clear hfz9_2
      try clear hx246_0
      try clear hx246_1
      try clear hx246_2
      try clear hx246_3
      try clear hx246_4
      try clear hx247_0
      try clear hx247_1
      try clear hx247_2
      try clear hx247_3
      try clear hx247_4
      try clear hx250_0
      try clear hx250_1
      try clear hx250_2
      try clear hx250_3
      try clear hx250_4
      try clear hx251_0
      try clear hx251_1
      try clear hx251_2
      try clear hx251_3
      try clear hx251_4
      try clear hx253_0
      try clear hx253_1
      try clear hx253_2
      try clear hx253_3
      try clear hx253_4
      try clear hx255_0
      try clear hx256_0
      try clear p2
      try clear p24
      try clear p246
      try clear p247
      try clear p25
      try clear p250
      try clear p251
      try clear p253
      try clear p255
      try clear p256
      try clear p6
      try clear q2
      try clear q20
      try clear q24
      try clear q246
      try clear q247
      try clear q25
      try clear q250
      try clear q251
      try clear q253
      try clear q255
      try clear q256
      try clear q4
      try clear q42
      obtain ⟨kq, x112_47, rfl, HA, HJ47, HO_250001, HO_250002, BK243, BK244, BK249, BK252, HB⟩ := hcut
      cases kq with
      | zero => exact absurd HA.out (by simp [quadratref06_Cut.j4])
      | succ kj47 =>
       have H := HA.out
       clear HA
       simp only [quadratref06_Cut.j4] at H
       by_cases c67 : x112_47 = true
       case pos =>
        subst c67
        have H1 : (some (0, ([] : List Int), ([] : List Int), 92)) = some (r1, r2, r3, r4) := by rw [if_pos rfl] at H; exact H
        clear H
        have H := H1
        clear H1
        simp only [Option.some.injEq, Prod.mk.injEq] at H
        obtain ⟨rfl, rfl, rfl, rfl⟩ := H
        have hnb68 := NB244_243.out
        have hnc68 := NB243_244.out
        have hnb69 := NB244_249.out
        have hnc69 := NB249_244.out
        have hnb70 := NB244_252.out
        have hnc70 := NB252_244.out
        have hcz71_0 : wc.cell? ⟨gb244, 0, none⟩ = some (.int .i64 x245000_3) := (blk_cell BK244.out 0).trans rfl
        have hcz71_1 : wc.cell? ⟨gb244, 1, none⟩ = some (.slice none 0 0) := (blk_cell BK244.out 1).trans rfl
        have hcz71_2 : wc.cell? ⟨gb244, 2, none⟩ = some (.slice none 0 0) := (blk_cell BK244.out 2).trans rfl
        have hfz71_0 := blk_frozen BK244.out 0
        have hfz71_1 := blk_frozen BK244.out 1
        have hfz71_2 := blk_frozen BK244.out 2
        go_wp2
        refine bodyPost_ret (results_ct rfl _ _ gb244 31 #[.int .i64 0, .slice none 0 0, .slice none 0 0] (0, 0) _ rfl (by (with_reducible repeat first | apply blk_drewN | apply blk_drew | apply blk_alloc); refine blk_put (cs := #[.int .i64 0, .slice none 0 0, .slice none 0 0]) ?_ 2 _ rfl; (with_reducible repeat first | apply blk_drewN | apply blk_drew | apply blk_alloc); refine blk_put (cs := #[.int .i64 0, .slice none 0 0, .slice none 0 0]) ?_ 1 _ rfl; (with_reducible repeat first | apply blk_drewN | apply blk_drew | apply blk_alloc); refine blk_put (cs := #[.int .i64 x245000_3, .slice none 0 0, .slice none 0 0]) ?_ 0 _ rfl; (with_reducible repeat first | apply blk_drewN | apply blk_drew | apply blk_alloc); exact BK244.out) Try.underlying31 rfl (by kernel_rfl)) rfl ?_
        exact ⟨_, _, by first | (simp only [Array.getD_eq_getD_getElem?, List.getElem?_toArray, List.getElem?_cons_succ, List.getElem?_cons_zero, Option.getD_some] <;> rfl) | rfl | (simp [errW_none, errW_some] <;> rfl) | (simp [*, errW_none, errW_some] <;> rfl), by first | exact Kd.R_nil _ _ _ _ _ | exact Kd.N_nil _ _ _ _ _ | exact Kd.V_nil _ _ _ _ _ | exact Kd.Q_nil _ _ _ _ _ | exact Kd.S_nil _ _ _ _ _, by first | exact Kd.R_nil _ _ _ _ _ | exact Kd.N_nil _ _ _ _ _ | exact Kd.V_nil _ _ _ _ _ | exact Kd.Q_nil _ _ _ _ _ | exact Kd.S_nil _ _ _ _ _, by repeat (first | (with_reducible first | exact HB.out | apply below_alloc | apply pw_below_drewN | apply below_drew1 | refine below_set ?_ GE243.out | refine below_set ?_ GE244.out | refine below_set ?_ GE249.out | refine below_set ?_ GE252.out) | exact HB.out)⟩
       replace c67 := Bool.eq_false_iff.mpr c67
       subst c67
       have H1 : (if x10_35 > 0 then ((quadratref06_size.f kj47 l0_1).bind fun t257 => (quadratref06_Cut.j5 kj47 l1 x8_3 x9_35 x10_35 x11_35 (decide (t257 > 0)) a0_0 l0_1 l0_2 x250000_3 x250001_3 x250002_3)) else (quadratref06_Cut.j5 kj47 l1 x8_3 x9_35 x10_35 x11_35 false a0_0 l0_1 l0_2 x250000_3 x250001_3 x250002_3)) = some (r1, r2, r3, r4) := by rw [if_neg (show ¬ (false = true) by decide)] at H; exact H
       clear H
       have H := H1
       clear H1
       have HC72 := Aside0.mk H
       clear H
       go_upto_region 19 with (fail)
       go_cut [121] (fun v121 wc => ∃ (kq : Nat) (x121_71 : Bool), v121 = .bool x121_71 ∧ Aside0 (quadratref06_Cut.j5 kq l1 x8_3 x9_35 x10_35 x11_35 x121_71 a0_0 l0_1 l0_2 x250000_3 x250001_3 x250002_3 = some (r1, r2, r3, r4)) ∧ Aside0 (kq ≤ kj47) ∧ Aside0 (Kd.R (Kd.int .i64) 3 wc w.heap.size (fun k_ => some k_ ≠ (u250002 : Value).ownBlock) u250001 x250001_3) ∧ Aside0 (Kd.R (Kd.int .i64) 3 wc w.heap.size (fun k_ => some k_ ≠ (u250001 : Value).ownBlock) u250002 x250002_3) ∧ Aside0 (wc.heap[gb243]? = some (.cells #[.int .i64 a0_0, (.slice A0_1 l0_1.length c0_1), (.slice A0_2 l0_2.length c0_2)] 31 (0, 0))) ∧ Aside0 (wc.heap[gb244]? = some (.cells #[.int .i64 x245000_3, (.slice none 0 0), (.slice none 0 0)] 31 (0, 0))) ∧ Aside0 (wc.heap[gb249]? = some (.cells #[.int .i64 x250000_3, u250001, u250002] 31 (0, 0))) ∧ Aside0 (wc.heap[gb252]? = some (.cells #[.int .i64 ((rd_T58 l1 x8_3).f2.f0), .int .i64 ((rd_T58 l1 x8_3).f2.f1), .int .i64 ((rd_T58 l1 x8_3).f2.f2)] 23 (0, 0))) ∧ Aside0 (Below w.heap.size w wc))
       case first =>
        have H := HC72.out
        clear HC72
        by_cases c73 : x10_35 > 0
        case neg =>
         rw [if_neg c73] at H
         have c73b0 : decide (0 < x10_35) = false := decide_eq_false c73
         clear c73
         (first | rw [c73b0] | (simp only [i64_w, i32_w]; rw [c73b0]) | skip)
         have H' := Aside0.mk H
         clear H
         go_wp2
         go_meet
         case rel => exact ⟨_, (false), (by first | rfl | (simp; done) | (simp [*]; done)), H', ⟨by have := HJ2.out; have := HK2.out; have := HK3.out; have := HJ35.out; have := HJ47.out; first | omega | exact Nat.le_refl _⟩, ⟨by (with_reducible repeat first | apply Kd.R_alloc | apply Kd.R_drewN | apply Kd.R_drew); exact HO_250001.out⟩, ⟨by (with_reducible repeat first | apply Kd.R_alloc | apply Kd.R_drewN | apply Kd.R_drew); exact HO_250002.out⟩, ⟨by (with_reducible repeat first | apply blk_drewN | apply blk_drew | apply blk_alloc); exact BK243.out⟩, ⟨by (with_reducible repeat first | apply blk_drewN | apply blk_drew | apply blk_alloc); exact BK244.out⟩, ⟨by (with_reducible repeat first | apply blk_drewN | apply blk_drew | apply blk_alloc); exact BK249.out⟩, ⟨by (with_reducible repeat first | apply blk_drewN | apply blk_drew | apply blk_alloc); exact BK252.out⟩, ⟨by repeat (first | (with_reducible first | exact HB.out | apply below_alloc | apply pw_below_drewN | apply below_drew1 | refine below_set ?_ GE243.out | refine below_set ?_ GE244.out | refine below_set ?_ GE249.out | refine below_set ?_ GE252.out) | exact HB.out)⟩⟩
        rw [if_pos c73] at H
        have c73b0 : decide (0 < x10_35) = true := decide_eq_true c73
        clear c73
        (first | rw [c73b0] | (simp only [i64_w, i32_w]; rw [c73b0]) | skip)
        replace H := Option.bind_eq_some_iff.mp H
        obtain ⟨t257, A740, H⟩ := H
        replace H : (quadratref06_Cut.j5 kj47 l1 x8_3 x9_35 x10_35 x11_35 (decide (t257 > 0)) a0_0 l0_1 l0_2 x250000_3 x250001_3 x250002_3) = some (r1, r2, r3, r4) := H
        have A74 := Aside0.mk A740
        clear A740
        have H' := Aside0.mk H
        clear H
        have hnb75 := NB243_244.out
        have hnc75 := NB244_243.out
        have hnb76 := NB243_249.out
        have hnc76 := NB249_243.out
        have hnb77 := NB243_252.out
        have hnc77 := NB252_243.out
        have hcz78_0 : wc.cell? ⟨gb243, 0, none⟩ = some (.int .i64 a0_0) := (blk_cell BK243.out 0).trans rfl
        have hcz78_1 : wc.cell? ⟨gb243, 1, none⟩ = some (.slice A0_1 l0_1.length c0_1) := (blk_cell BK243.out 1).trans rfl
        have hcz78_2 : wc.cell? ⟨gb243, 2, none⟩ = some (.slice A0_2 l0_2.length c0_2) := (blk_cell BK243.out 2).trans rfl
        have hfz78_0 := blk_frozen BK243.out 0
        have hfz78_1 := blk_frozen BK243.out 1
        have hfz78_2 := blk_frozen BK243.out 2
        go_wp2_with (first | (go_at_call 47; (with_reducible refine (quadratref06_size.calls kj47 _ _ l0_1 t257 _ ?side1 ?side2 A74.out).mono ?_); (case side1 => repeat (first | exact (Kd.C_below HR0_1.out HB.out) | (with_reducible refine Kd.C_alloc ?_ _) | (with_reducible refine Kd.C_drewN ?_ _) | (with_reducible refine Kd.C_drew ?_))); (case side2 => exact HC0_1.out); rintro e w' ⟨rfl, ⟨nd, rfl⟩⟩))
        go_meet
        case rel => exact ⟨_, (decide (t257 > 0)), (by first | rfl | (simp; done) | (simp [*]; done)), H', ⟨by have := HJ2.out; have := HK2.out; have := HK3.out; have := HJ35.out; have := HJ47.out; first | omega | exact Nat.le_refl _⟩, ⟨by (with_reducible repeat first | apply Kd.R_alloc | apply Kd.R_drewN | apply Kd.R_drew); exact HO_250001.out⟩, ⟨by (with_reducible repeat first | apply Kd.R_alloc | apply Kd.R_drewN | apply Kd.R_drew); exact HO_250002.out⟩, ⟨by (with_reducible repeat first | apply blk_drewN | apply blk_drew | apply blk_alloc); exact BK243.out⟩, ⟨by (with_reducible repeat first | apply blk_drewN | apply blk_drew | apply blk_alloc); exact BK244.out⟩, ⟨by (with_reducible repeat first | apply blk_drewN | apply blk_drew | apply blk_alloc); exact BK249.out⟩, ⟨by (with_reducible repeat first | apply blk_drewN | apply blk_drew | apply blk_alloc); exact BK252.out⟩, ⟨by repeat (first | (with_reducible first | exact HB.out | apply below_alloc | apply pw_below_drewN | apply below_drew1 | refine below_set ?_ GE243.out | refine below_set ?_ GE244.out | refine below_set ?_ GE249.out | refine below_set ?_ GE252.out) | exact HB.out)⟩⟩
       clear HC72
       try clear c1
       try clear c2
       try clear p2
       try clear q2
       try clear hx2
       try clear c3
       try clear c4
       try clear q4
       try clear c5
       try clear c6
       try clear p6
       try clear c7
       try clear c8
       try clear c12
       try clear c15
       try clear c16
       try clear c18
       try clear c18b0
       try clear c19
       try clear c19b0
       try clear q20
       try clear c21
       try clear c23
       try clear c24
       try clear p24
       try clear q24
       try clear hx24
       try clear p25
       try clear q25
       try clear hx25
       try clear c26
       try clear c28
       try clear c31
       try clear c32
       try clear c34
       try clear c34b0
       try clear c35
       try clear c35b0
       try clear c38
       try clear c39
       try clear c40
       try clear q42
       try clear c43
       try clear c45
       try clear c49
       try clear c49b0
       try clear c50
       try clear c50b0
       try clear c51
       try clear c51b0
       try clear c52
       try clear c52b0
       try clear c53
       try clear c53b0
       try clear c54
       try clear c55
       try clear c56
       try clear c58
       try clear c58b0
       try clear c59
       try clear c60
       try clear c61
       try clear c63
       try clear c64
       try clear p64
       try clear c65
       try clear c67
       try clear c68
       try clear c69
       try clear c70
       try clear c73
       try clear c73b0
       try clear c75
       try clear c76
       try clear c77
       try clear hcz11_0
       try clear hcz11_1
       try clear hcz11_2
       try clear hcz13_0
       try clear hcz13_1
       try clear hcz13_2
       try clear hcz17_0
       try clear hcz17_1
       try clear hcz17_2
       try clear hcz27_0
       try clear hcz27_1
       try clear hcz27_2
       try clear hcz29_0
       try clear hcz29_1
       try clear hcz29_2
       try clear hcz33_0
       try clear hcz33_1
       try clear hcz33_2
       try clear hcz41_0
       try clear hcz41_1
       try clear hcz41_2
       try clear hcz57_0
       try clear hcz57_1
       try clear hcz57_2
       try clear hcz62_0
       try clear hcz62_1
       try clear hcz62_2
       try clear hcz66_0
       try clear hcz66_1
       try clear hcz66_2
       try clear hcz71_0
       try clear hcz71_1
       try clear hcz71_2
       try clear hcz78_0
       try clear hcz78_1
       try clear hcz78_2
       try clear hcz9_0
       try clear hcz9_1
       try clear hcz9_2
       try clear hfz11_0
       try clear hfz11_1
       try clear hfz11_2
       try clear hfz13_0
       try clear hfz13_1
       try clear hfz13_2
       try clear hfz17_0
       try clear hfz17_1
       try clear hfz17_2
       try clear hfz27_0
       try clear hfz27_1
       try clear hfz27_2
       try clear hfz29_0
       try clear hfz29_1
       try clear hfz29_2
       try clear hfz33_0
       try clear hfz33_1
       try clear hfz33_2
       try clear hfz41_0
       try clear hfz41_1
       try clear hfz41_2
       try clear hfz57_0
       try clear hfz57_1
       try clear hfz57_2
       try clear hfz62_0
       try clear hfz62_1
       try clear hfz62_2
       try clear hfz66_0
       try clear hfz66_1
       try clear hfz66_2
       try clear hfz71_0
       try clear hfz71_1
       try clear hfz71_2
       try clear hfz78_0
       try clear hfz78_1
       try clear hfz78_2
       try clear hfz9_0
       try clear hfz9_1
       try clear hfz9_2
       try clear hx246_0
       try clear hx246_1
       try clear hx246_2
       try clear hx246_3
       try clear hx246_4
       try clear hx247_0
       try clear hx247_1
       try clear hx247_2
       try clear hx247_3
       try clear hx247_4
       try clear hx250_0
       try clear hx250_1
       try clear hx250_2
       try clear hx250_3
       try clear hx250_4
       try clear hx251_0
       try clear hx251_1
       try clear hx251_2
       try clear hx251_3
       try clear hx251_4
       try clear hx253_0
       try clear hx253_1
       try clear hx253_2
       try clear hx253_3
       try clear hx253_4
       try clear hx255_0
       try clear hx256_0
       try clear p2
       try clear p24
       try clear p246
       try clear p247
       try clear p25
       try clear p250
       try clear p251
       try clear p253
       try clear p255
       try clear p256
       try clear p6
       try clear p64
       try clear q2
       try clear q20
       try clear q24
       try clear q246
       try clear q247
       try clear q25
       try clear q250
       try clear q251
       try clear q253
       try clear q255
       try clear q256
       try clear q4
       try clear q42
       obtain ⟨kq, x121_71, rfl, HA, HJ71, HO_250001, HO_250002, BK243, BK244, BK249, BK252, HB⟩ := hcut
       cases kq with
       | zero => exact absurd HA.out (by simp [quadratref06_Cut.j5])
       | succ kj71 =>
        have H := HA.out
        clear HA
        simp only [quadratref06_Cut.j5] at H
        have HC79 := Aside0.mk H
        clear H
        go_upto_if 121 with (fail)
        go_cut [] (fun wc => ∃ (kq : Nat) (x250000_78 : Int), Aside0 (quadratref06_Cut.j6 kq l1 x8_3 x10_35 x11_35 a0_0 l0_1 l0_2 x250000_78 x250001_3 x250002_3 = some (r1, r2, r3, r4)) ∧ Aside0 (kq ≤ kj71) ∧ Aside0 (Kd.R (Kd.int .i64) 3 wc w.heap.size (fun k_ => some k_ ≠ (u250002 : Value).ownBlock) u250001 x250001_3) ∧ Aside0 (Kd.R (Kd.int .i64) 3 wc w.heap.size (fun k_ => some k_ ≠ (u250001 : Value).ownBlock) u250002 x250002_3) ∧ Aside0 (wc.heap[gb243]? = some (.cells #[.int .i64 a0_0, (.slice A0_1 l0_1.length c0_1), (.slice A0_2 l0_2.length c0_2)] 31 (0, 0))) ∧ Aside0 (wc.heap[gb244]? = some (.cells #[.int .i64 x245000_3, (.slice none 0 0), (.slice none 0 0)] 31 (0, 0))) ∧ Aside0 (wc.heap[gb249]? = some (.cells #[.int .i64 x250000_78, u250001, u250002] 31 (0, 0))) ∧ Aside0 (wc.heap[gb252]? = some (.cells #[.int .i64 ((rd_T58 l1 x8_3).f2.f0), .int .i64 ((rd_T58 l1 x8_3).f2.f1), .int .i64 ((rd_T58 l1 x8_3).f2.f2)] 23 (0, 0))) ∧ Aside0 (Below w.heap.size w wc))
        case first =>
         have H := HC79.out
         clear HC79
         by_cases c80 : x121_71 = true
         case neg =>
          replace c80 := Bool.eq_false_iff.mpr c80
          subst c80
          have H1 : (quadratref06_Cut.j6 kj71 l1 x8_3 x10_35 x11_35 a0_0 l0_1 l0_2 x250000_3 x250001_3 x250002_3) = some (r1, r2, r3, r4) := by rw [if_neg (show ¬ (false = true) by decide)] at H; exact H
          clear H
          have H := H1
          clear H1
          have H' := Aside0.mk H
          clear H
          go_wp2
          go_meet
          case rel => exact ⟨_, (x250000_3), H', ⟨by have := HJ2.out; have := HK2.out; have := HK3.out; have := HJ35.out; have := HJ47.out; have := HJ71.out; first | omega | exact Nat.le_refl _⟩, ⟨by (with_reducible repeat first | apply Kd.R_alloc | apply Kd.R_drewN | apply Kd.R_drew); exact HO_250001.out⟩, ⟨by (with_reducible repeat first | apply Kd.R_alloc | apply Kd.R_drewN | apply Kd.R_drew); exact HO_250002.out⟩, ⟨by (with_reducible repeat first | apply blk_drewN | apply blk_drew | apply blk_alloc); exact BK243.out⟩, ⟨by (with_reducible repeat first | apply blk_drewN | apply blk_drew | apply blk_alloc); exact BK244.out⟩, ⟨by (with_reducible repeat first | apply blk_drewN | apply blk_drew | apply blk_alloc); exact BK249.out⟩, ⟨by (with_reducible repeat first | apply blk_drewN | apply blk_drew | apply blk_alloc); exact BK252.out⟩, ⟨by repeat (first | (with_reducible first | exact HB.out | apply below_alloc | apply pw_below_drewN | apply below_drew1 | refine below_set ?_ GE243.out | refine below_set ?_ GE244.out | refine below_set ?_ GE249.out | refine below_set ?_ GE252.out) | exact HB.out)⟩⟩
         subst c80
         have H1 : (if 0 ≤ x8_3 then (if x8_3 < (l0_2.length : Int) then (quadratref06_Cut.j6 kj71 l1 x8_3 x10_35 x11_35 a0_0 l0_1 l0_2 (wrap64 (x250000_3 + (wrap64 (x9_35 * (rd l0_2 x8_3))))) x250001_3 x250002_3) else (none)) else (none)) = some (r1, r2, r3, r4) := by rw [if_pos rfl] at H; exact H
         clear H
         have H := H1
         clear H1
         by_cases c81 : 0 ≤ x8_3
         case neg =>
          rw [if_neg c81] at H
          exact absurd H (by simp)
         rw [if_pos c81] at H
         have c81b0 : decide (0 ≤ x8_3) = true := decide_eq_true c81
         clear c81
         (first | rw [c81b0] | (simp only [i64_w, i32_w]; rw [c81b0]) | skip)
         by_cases c82 : x8_3 < (l0_2.length : Int)
         case neg =>
          rw [if_neg c82] at H
          exact absurd H (by simp)
         rw [if_pos c82] at H
         have c82b0 : decide (x8_3 < (l0_2.length : Int)) = true := decide_eq_true c82
         clear c82
         have H' := Aside0.mk H
         clear H
         try go_wp2
         have n0_ := Aside0.mk (Kd.R_drew HO_250001.out)
         have n1_ := Aside0.mk (Kd.R_drew HO_250002.out)
         have n2_ := Aside0.mk (blk_drew BK243.out)
         have n3_ := Aside0.mk (blk_drew BK244.out)
         have n4_ := Aside0.mk (blk_drew BK249.out)
         have n5_ := Aside0.mk (blk_drew BK252.out)
         have n6_ := Aside0.mk (below_drew1 HB.out)
         clear HO_250001
         clear HO_250002
         clear BK243
         clear BK244
         clear BK249
         clear BK252
         clear HB
         have HO_250001 := n0_
         have HO_250002 := n1_
         have BK243 := n2_
         have BK244 := n3_
         have BK249 := n4_
         have BK252 := n5_
         have HB := n6_
         clear n0_ n1_ n2_ n3_ n4_ n5_ n6_
         have p258 : 0 ≤ (x8_3 : Int) := of_decide_eq_true (by first | (with_reducible assumption) | assumption)
         have q258 : x8_3 < (l0_2.length : Int) := of_decide_eq_true (by first | (with_reducible assumption) | assumption)
         obtain ⟨ad258, e258, hx258_0⟩ := Kd.at_int HR0_2.out x8_3 p258 q258
         have hw258_0 := hx258_0
         cases e258
         replace hx258_0 := (HB.out.cell (World.block_lt_of_cell? w _ hx258_0)).trans hx258_0
         replace p258 := eq_true p258
         replace q258 := eq_true q258
         refine start_ (n := 12) (S := fun w' => w'.cell? ⟨gb249, 0, none⟩ = some (.int .i64 x250000_3) ∧ w'.cell? ⟨gb249, 1, none⟩ = some (u250001) ∧ w'.cell? ⟨gb249, 2, none⟩ = some (u250002) ∧ w'.cell? ⟨gb243, 0, none⟩ = some (.int .i64 a0_0) ∧ w'.cell? ⟨gb243, 1, none⟩ = some (.slice A0_1 l0_1.length c0_1) ∧ w'.cell? ⟨gb243, 2, none⟩ = some (.slice (some ad258) l0_2.length c0_2) ∧ w'.cell? (ad258.add (x8_3).toNat) = some (.int .i64 (rd l0_2 x8_3))) (ds := [11]) #[false, false, false, false, false, false, false, false, false, false, false, false] (by kernel_rfl) rfl rfl ⟨(blk_cell BK249.out 0).trans rfl, (blk_cell BK249.out 1).trans rfl, (blk_cell BK249.out 2).trans rfl, (blk_cell BK243.out 0).trans rfl, (blk_cell BK243.out 1).trans rfl, (blk_cell BK243.out 2).trans rfl, ((HB.out.cell (World.block_lt_of_cell? w _ hw258_0)).trans hw258_0)⟩ (fun hHeld => ?_); refine with_tabW quadratref06_Cut.tab20 quadratref06_Cut.bits20 (fun HT_ HW_ => ?_)
         generalize wc.drew = w83 at HO_250001 HO_250002 BK243 BK244 BK249 BK252 HB hx258_0 hHeld ⊢
         refine pure_ (i := 0) (N := some 122) (v := ?_) (a' := ?_) #[true, false, false, false, false, false, false, false, false, false, false, false] rfl rfl (any_of HT_.out (by kernel_rfl)) (fun _ _ _ h => h) (Or.inl ⟨by rfl, ?_⟩) ?_ ?_
         rotate_left
         · intro w'; go_simp; with_reducible rfl
         rotate_left
         · simp only [Act.put, List.setIfInBounds_toArray, List.set_cons_zero, List.set_cons_succ, i64_w, i32_w]; rfl
         refine pure_ (i := 2) (N := some 124) (v := ?_) (a' := ?_) #[true, false, true, false, false, false, false, false, false, false, false, false] rfl rfl (any_of HT_.out (by kernel_rfl)) (fun _ _ _ h => h) (Or.inl ⟨by rfl, ?_⟩) ?_ ?_
         rotate_left
         · intro w'; go_simp; with_reducible rfl
         rotate_left
         · simp only [Act.put, List.setIfInBounds_toArray, List.set_cons_zero, List.set_cons_succ, i64_w, i32_w]; rfl
         refine pure_ (i := 3) (N := some 125) (v := ?_) (a' := ?_) #[true, false, true, true, false, false, false, false, false, false, false, false] rfl rfl (any_of HT_.out (by kernel_rfl)) (fun _ _ _ h => h) (Or.inl ⟨by rfl, ?_⟩) ?_ ?_
         rotate_left
         · intro w'; go_simp; with_reducible rfl
         rotate_left
         · simp only [Act.put, List.setIfInBounds_toArray, List.set_cons_zero, List.set_cons_succ, i64_w, i32_w]; rfl
         refine pure_ (i := 5) (N := some 127) (v := ?_) (a' := ?_) #[true, false, true, true, false, true, false, false, false, false, false, false] rfl rfl (any_of HT_.out (by kernel_rfl)) (fun _ _ _ h => h) (Or.inl ⟨by rfl, ?_⟩) ?_ ?_
         rotate_left
         · intro w'; go_simp; with_reducible rfl
         rotate_left
         · simp only [Act.put, List.setIfInBounds_toArray, List.set_cons_zero, List.set_cons_succ, i64_w, i32_w]; rfl
         refine take_ (i := 1) (N := some 123) (v := ?_) (a' := ?_) #[true, true, true, true, false, true, false, false, false, false, false, false] rfl rfl (take_ofW HT_.out HW_.out (by kernel_rfl)) (fun _ _ _ h => h) (Or.inl ⟨by rfl, ?_⟩) hHeld ?_ ?_
         rotate_left
         · rintro w' ⟨s0, s1, s2, s3, s4, s5, s6⟩
           go_simp
           with_reducible rfl
         rotate_left
         · simp only [Act.put, List.setIfInBounds_toArray, List.set_cons_zero, List.set_cons_succ, i64_w, i32_w]; rfl
         refine take_ (i := 4) (N := some 126) (v := ?_) (a' := ?_) #[true, true, true, true, true, true, false, false, false, false, false, false] rfl rfl (take_ofW HT_.out HW_.out (by kernel_rfl)) (fun _ _ _ h => h) (Or.inl ⟨by rfl, ?_⟩) hHeld ?_ ?_
         rotate_left
         · rintro w' ⟨s0, s1, s2, s3, s4, s5, s6⟩
           go_simp
           with_reducible rfl
         rotate_left
         · simp only [Act.put, List.setIfInBounds_toArray, List.set_cons_zero, List.set_cons_succ, i64_w, i32_w]; rfl
         refine pure_ (i := 6) (N := some 128) (v := ?_) (a' := ?_) #[true, true, true, true, true, true, true, false, false, false, false, false] rfl rfl (any_of HT_.out (by kernel_rfl)) (fun _ _ _ h => h) (Or.inl ⟨by rfl, ?_⟩) ?_ ?_
         rotate_left
         · intro w'; go_simp; with_reducible rfl
         rotate_left
         · simp only [Act.put, List.setIfInBounds_toArray, List.set_cons_zero, List.set_cons_succ, i64_w, i32_w]; rfl
         refine take_ (i := 7) (N := some 129) (v := ?_) (a' := ?_) #[true, true, true, true, true, true, true, true, false, false, false, false] rfl rfl (take_ofW HT_.out HW_.out (by kernel_rfl)) (fun _ _ _ h => h) (Or.inl ⟨by rfl, ?_⟩) hHeld ?_ ?_
         rotate_left
         · rintro w' ⟨s0, s1, s2, s3, s4, s5, s6⟩
           go_simp
           with_reducible rfl
         rotate_left
         · simp only [Act.put, List.setIfInBounds_toArray, List.set_cons_zero, List.set_cons_succ, i64_w, i32_w]; rfl
         refine pure_ (i := 8) (N := some 130) (v := ?_) (a' := ?_) #[true, true, true, true, true, true, true, true, true, false, false, false] rfl rfl (any_of HT_.out (by kernel_rfl)) (fun _ _ _ h => h) (Or.inl ⟨by rfl, ?_⟩) ?_ ?_
         rotate_left
         · intro w'; go_simp; with_reducible rfl
         rotate_left
         · simp only [Act.put, List.setIfInBounds_toArray, List.set_cons_zero, List.set_cons_succ, i64_w, i32_w]; rfl
         refine pure_ (i := 9) (N := some 131) (v := ?_) (a' := ?_) #[true, true, true, true, true, true, true, true, true, true, false, false] rfl rfl (any_of HT_.out (by kernel_rfl)) (fun _ _ _ h => h) (Or.inl ⟨by rfl, ?_⟩) ?_ ?_
         rotate_left
         · intro w'; go_simp; with_reducible rfl
         rotate_left
         · simp only [Act.put, List.setIfInBounds_toArray, List.set_cons_zero, List.set_cons_succ, i64_w, i32_w]; rfl
         refine pure_ (i := 10) (N := some 132) (v := ?_) (a' := ?_) #[true, true, true, true, true, true, true, true, true, true, true, false] rfl rfl (any_of HT_.out (by kernel_rfl)) (fun _ _ _ h => h) (Or.inl ⟨by rfl, ?_⟩) ?_ ?_
         rotate_left
         · intro w'; go_simp; with_reducible rfl
         rotate_left
         · simp only [Act.put, List.setIfInBounds_toArray, List.set_cons_zero, List.set_cons_succ, i64_w, i32_w]; rfl
         refine last_ (i := 11) (N := none) #[true, true, true, true, true, true, true, true, true, true, true, true] rfl rfl (one_of HT_.out (by kernel_rfl)) (by decide) (fun K hK => ?_)
         have hs84 : w83.cell? ⟨gb249, 0, none⟩ = some (.int .i64 x250000_3) := (blk_cell BK249.out 0).trans rfl
         have hfs84 := blk_frozen BK249.out 0
         have hns84_0 := NB243_249.out
         have hns84_1 := NB244_249.out
         have hns84_3 := NB252_249.out
         have hms84_0 := NB249_243.out
         have hms84_1 := NB249_244.out
         have hms84_3 := NB249_252.out
         refine skip_ (w1 := ?_) (by rfl) rfl ?_ ?_
         rotate_left
         · go_simp
           rfl
         refine hK.out _ _ ?_
         clear hK K
         refine done_ (done_of HT_.out (by kernel_rfl)) ?_
         try go_wp2
         go_meet
         case rel => exact ⟨_, (wrap64 (x250000_3 + (wrap64 (x9_35 * (rd l0_2 x8_3))))), H', ⟨by have := HJ2.out; have := HK2.out; have := HK3.out; have := HJ35.out; have := HJ47.out; have := HJ71.out; first | omega | exact Nat.le_refl _⟩, ⟨by (with_reducible repeat first | apply Kd.R_alloc | apply Kd.R_drewN | apply Kd.R_drew); exact Kd.R_mono (Kd.R_far (p := ⟨gb249, 0, none⟩) (Kd.R_types HO_250001.out BK249.out (by decide)) (fun _ hk => hk.2) (.int .i64 (wrap64 (x250000_3 + (wrap64 (x9_35 * (rd l0_2 x8_3))))))) (fun _ hk => hk.1)⟩, ⟨by (with_reducible repeat first | apply Kd.R_alloc | apply Kd.R_drewN | apply Kd.R_drew); exact Kd.R_mono (Kd.R_far (p := ⟨gb249, 0, none⟩) (Kd.R_types HO_250002.out BK249.out (by decide)) (fun _ hk => hk.2) (.int .i64 (wrap64 (x250000_3 + (wrap64 (x9_35 * (rd l0_2 x8_3))))))) (fun _ hk => hk.1)⟩, ⟨by (with_reducible repeat first | apply blk_drewN | apply blk_drew | apply blk_alloc); refine blk_far ?_ NB243_249.out _; (with_reducible repeat first | apply blk_drewN | apply blk_drew | apply blk_alloc); exact BK243.out⟩, ⟨by (with_reducible repeat first | apply blk_drewN | apply blk_drew | apply blk_alloc); refine blk_far ?_ NB244_249.out _; (with_reducible repeat first | apply blk_drewN | apply blk_drew | apply blk_alloc); exact BK244.out⟩, ⟨by (with_reducible repeat first | apply blk_drewN | apply blk_drew | apply blk_alloc); refine blk_put (cs := #[.int .i64 x250000_3, u250001, u250002]) ?_ 0 _ rfl; (with_reducible repeat first | apply blk_drewN | apply blk_drew | apply blk_alloc); exact BK249.out⟩, ⟨by (with_reducible repeat first | apply blk_drewN | apply blk_drew | apply blk_alloc); refine blk_far ?_ NB252_249.out _; (with_reducible repeat first | apply blk_drewN | apply blk_drew | apply blk_alloc); exact BK252.out⟩, ⟨by repeat (first | (with_reducible first | exact HB.out | apply below_alloc | apply pw_below_drewN | apply below_drew1 | refine below_set ?_ GE243.out | refine below_set ?_ GE244.out | refine below_set ?_ GE249.out | refine below_set ?_ GE252.out) | exact HB.out)⟩⟩
        clear HC79
        try clear c1
        try clear c2
        try clear p2
        try clear q2
        try clear hx2
        try clear c3
        try clear c4
        try clear q4
        try clear c5
        try clear c6
        try clear p6
        try clear c7
        try clear c8
        try clear c12
        try clear c15
        try clear c16
        try clear c18
        try clear c18b0
        try clear c19
        try clear c19b0
        try clear q20
        try clear c21
        try clear c23
        try clear c24
        try clear p24
        try clear q24
        try clear hx24
        try clear p25
        try clear q25
        try clear hx25
        try clear c26
        try clear c28
        try clear c31
        try clear c32
        try clear c34
        try clear c34b0
        try clear c35
        try clear c35b0
        try clear c38
        try clear c39
        try clear c40
        try clear q42
        try clear c43
        try clear c45
        try clear c49
        try clear c49b0
        try clear c50
        try clear c50b0
        try clear c51
        try clear c51b0
        try clear c52
        try clear c52b0
        try clear c53
        try clear c53b0
        try clear c54
        try clear c55
        try clear c56
        try clear c58
        try clear c58b0
        try clear c59
        try clear c60
        try clear c61
        try clear c63
        try clear c64
        try clear p64
        try clear c65
        try clear c67
        try clear c68
        try clear c69
        try clear c70
        try clear c73
        try clear c73b0
        try clear c75
        try clear c76
        try clear c77
        try clear c80
        try clear c81
        try clear c81b0
        try clear c82
        try clear c82b0
        try clear hcz11_0
        try clear hcz11_1
        try clear hcz11_2
        try clear hcz13_0
        try clear hcz13_1
        try clear hcz13_2
        try clear hcz17_0
        try clear hcz17_1
        try clear hcz17_2
        try clear hcz27_0
        try clear hcz27_1
        try clear hcz27_2
        try clear hcz29_0
        try clear hcz29_1
        try clear hcz29_2
        try clear hcz33_0
        try clear hcz33_1
        try clear hcz33_2
        try clear hcz41_0
        try clear hcz41_1
        try clear hcz41_2
        try clear hcz57_0
        try clear hcz57_1
        try clear hcz57_2
        try clear hcz62_0
        try clear hcz62_1
        try clear hcz62_2
        try clear hcz66_0
        try clear hcz66_1
        try clear hcz66_2
        try clear hcz71_0
        try clear hcz71_1
        try clear hcz71_2
        try clear hcz78_0
        try clear hcz78_1
        try clear hcz78_2
        try clear hcz9_0
        try clear hcz9_1
        try clear hcz9_2
        try clear hfz11_0
        try clear hfz11_1
        try clear hfz11_2
        try clear hfz13_0
        try clear hfz13_1
        try clear hfz13_2
        try clear hfz17_0
        try clear hfz17_1
        try clear hfz17_2
        try clear hfz27_0
        try clear hfz27_1
        try clear hfz27_2
        try clear hfz29_0
        try clear hfz29_1
        try clear hfz29_2
        try clear hfz33_0
        try clear hfz33_1
        try clear hfz33_2
        try clear hfz41_0
        try clear hfz41_1
        try clear hfz41_2
        try clear hfz57_0
        try clear hfz57_1
        try clear hfz57_2
        try clear hfz62_0
        try clear hfz62_1
        try clear hfz62_2
        try clear hfz66_0
        try clear hfz66_1
        try clear hfz66_2
        try clear hfz71_0
        try clear hfz71_1
        try clear hfz71_2
        try clear hfz78_0
        try clear hfz78_1
        try clear hfz78_2
        try clear hfz9_0
        try clear hfz9_1
        try clear hfz9_2
        try clear hx246_0
        try clear hx246_1
        try clear hx246_2
        try clear hx246_3
        try clear hx246_4
        try clear hx247_0
        try clear hx247_1
        try clear hx247_2
        try clear hx247_3
        try clear hx247_4
        try clear hx250_0
        try clear hx250_1
        try clear hx250_2
        try clear hx250_3
        try clear hx250_4
        try clear hx251_0
        try clear hx251_1
        try clear hx251_2
        try clear hx251_3
        try clear hx251_4
        try clear hx253_0
        try clear hx253_1
        try clear hx253_2
        try clear hx253_3
        try clear hx253_4
        try clear hx255_0
        try clear hx256_0
        try clear hx258_0
        try clear p2
        try clear p24
        try clear p246
        try clear p247
        try clear p25
        try clear p250
        try clear p251
        try clear p253
        try clear p255
        try clear p256
        try clear p258
        try clear p6
        try clear p64
        try clear q2
        try clear q20
        try clear q24
        try clear q246
        try clear q247
        try clear q25
        try clear q250
        try clear q251
        try clear q253
        try clear q255
        try clear q256
        try clear q258
        try clear q4
        try clear q42
        obtain ⟨kq, x250000_78, HA, HJ78, HO_250001, HO_250002, BK243, BK244, BK249, BK252, HB⟩ := hcut
        cases kq with
        | zero => exact absurd HA.out (by simp [quadratref06_Cut.j6])
        | succ kj78 =>
         have H := HA.out
         clear HA
         simp only [quadratref06_Cut.j6] at H
         by_cases c85 : 0 ≤ x8_3
         case neg =>
          rw [if_neg c85] at H
          exact absurd H (by simp)
         rw [if_pos c85] at H
         have c85b0 : decide (0 ≤ x8_3) = true := decide_eq_true c85
         clear c85
         by_cases c86 : x8_3 < (l1.length : Int)
         case neg =>
          rw [if_neg c86] at H
          exact absurd H (by simp)
         rw [if_pos c86] at H
         have c86b0 : decide (x8_3 < (l1.length : Int)) = true := decide_eq_true c86
         clear c86
         obtain ⟨bq87, hbq87⟩ : ∃ b_ : Bool, b_ = ((rd_T58 l1 x8_3).f0) := ⟨_, rfl⟩
         replace H : (if bq87 = true then (quadratref06_Cut.l1 kj78 l1 (wrap64 (x8_3 + 1)) a0_0 l0_1 l0_2 x250000_78 x250001_3 x250002_3) else (if x10_35 < 2 then ((some (([x10_35] : List Int) : List Int)).bind fun y260 => (if x250001_3.length + y260.length < 17592186044416 then (if x8_3 < (l0_2.length : Int) then ((some (([wrap64 (1 * (rd l0_2 x8_3))] : List Int) : List Int)).bind fun y267 => (if x250002_3.length + y267.length < 17592186044416 then (quadratref06_Cut.l1 kj78 l1 (wrap64 (x8_3 + 1)) a0_0 l0_1 l0_2 x250000_78 (x250001_3 ++ y260) (x250002_3 ++ y267)) else (none))) else (none)) else (none))) else ((some (([x10_35] : List Int) : List Int)).bind fun y273 => (if x250001_3.length + y273.length < 17592186044416 then (if x8_3 < (l0_2.length : Int) then ((some (([wrap64 (x11_35 * (rd l0_2 x8_3))] : List Int) : List Int)).bind fun y280 => (if x250002_3.length + y280.length < 17592186044416 then (quadratref06_Cut.l1 kj78 l1 (wrap64 (x8_3 + 1)) a0_0 l0_1 l0_2 x250000_78 (x250001_3 ++ y273) (x250002_3 ++ y280)) else (none))) else (none)) else (none))))) = some (r1, r2, r3, r4) := by rw [← hbq87] at H; exact H
         have Nbq87 := Aside0.mk hbq87
         clear hbq87
         by_cases c88 : bq87 = true
         case pos =>
          subst c88
          have H1 : (quadratref06_Cut.l1 kj78 l1 (wrap64 (x8_3 + 1)) a0_0 l0_1 l0_2 x250000_78 x250001_3 x250002_3) = some (r1, r2, r3, r4) := by rw [if_pos rfl] at H; exact H
          clear H
          have H := H1
          clear H1
          have H' := Aside0.mk H
          clear H
          have p259 : 0 ≤ (x8_3 : Int) := of_decide_eq_true (by first | (with_reducible assumption) | assumption)
          have q259 : x8_3 < (l1.length : Int) := of_decide_eq_true (by first | (with_reducible assumption) | assumption)
          obtain ⟨ad259, e259, hx259_0, hx259_1, hx259_2, hx259_3, hx259_4⟩ := at_T58 HR1.out x8_3 p259 q259
          (try rw [← Nbq87.out] at hx259_0)
          obtain rfl : ad250 = ad259 := (by injection e259)
          replace hx259_0 := (HB.out.cell (World.block_lt_of_cell? w _ hx259_0)).trans hx259_0
          replace hx259_1 := (HB.out.cell (World.block_lt_of_cell? w _ hx259_1)).trans hx259_1
          replace hx259_2 := (HB.out.cell (World.block_lt_of_cell? w _ hx259_2)).trans hx259_2
          replace hx259_3 := (HB.out.cell (World.block_lt_of_cell? w _ hx259_3)).trans hx259_3
          replace hx259_4 := (HB.out.cell (World.block_lt_of_cell? w _ hx259_4)).trans hx259_4
          replace p259 := eq_true p259
          replace q259 := eq_true q259
          go_wp2
          go_roundg kj78
          case measure => have := HJ2.out; have := HK2.out; have := HK3.out; have := HJ35.out; have := HJ47.out; have := HJ71.out; have := HJ78.out; omega
          case rel => exact ⟨(wrap64 (x8_3 + 1)), (x245000_3), (x250000_78), (x250001_3), (x250002_3), (u250001), (u250002), (by first | rfl | (simp; done) | (simp [*]; done)), H', ⟨by have := HJ2.out; have := HK2.out; have := HK3.out; have := HJ35.out; have := HJ47.out; have := HJ71.out; have := HJ78.out; omega⟩, ⟨by (with_reducible repeat first | apply Kd.R_alloc | apply Kd.R_drewN | apply Kd.R_drew); exact HO_250001.out⟩, ⟨by (with_reducible repeat first | apply Kd.R_alloc | apply Kd.R_drewN | apply Kd.R_drew); exact HO_250002.out⟩, ⟨by (with_reducible repeat first | apply blk_drewN | apply blk_drew | apply blk_alloc); exact BK243.out⟩, ⟨by (with_reducible repeat first | apply blk_drewN | apply blk_drew | apply blk_alloc); exact BK244.out⟩, ⟨by (with_reducible repeat first | apply blk_drewN | apply blk_drew | apply blk_alloc); exact BK249.out⟩, ⟨by repeat (first | (with_reducible first | exact HB.out | apply below_alloc | apply pw_below_drewN | apply below_drew1 | refine below_set ?_ GE243.out | refine below_set ?_ GE244.out | refine below_set ?_ GE249.out | refine below_set ?_ GE252.out) | exact HB.out)⟩⟩
         replace c88 := Bool.eq_false_iff.mpr c88
         subst c88
         have H1 : (if x10_35 < 2 then ((some (([x10_35] : List Int) : List Int)).bind fun y260 => (if x250001_3.length + y260.length < 17592186044416 then (if x8_3 < (l0_2.length : Int) then ((some (([wrap64 (1 * (rd l0_2 x8_3))] : List Int) : List Int)).bind fun y267 => (if x250002_3.length + y267.length < 17592186044416 then (quadratref06_Cut.l1 kj78 l1 (wrap64 (x8_3 + 1)) a0_0 l0_1 l0_2 x250000_78 (x250001_3 ++ y260) (x250002_3 ++ y267)) else (none))) else (none)) else (none))) else ((some (([x10_35] : List Int) : List Int)).bind fun y273 => (if x250001_3.length + y273.length < 17592186044416 then (if x8_3 < (l0_2.length : Int) then ((some (([wrap64 (x11_35 * (rd l0_2 x8_3))] : List Int) : List Int)).bind fun y280 => (if x250002_3.length + y280.length < 17592186044416 then (quadratref06_Cut.l1 kj78 l1 (wrap64 (x8_3 + 1)) a0_0 l0_1 l0_2 x250000_78 (x250001_3 ++ y273) (x250002_3 ++ y280)) else (none))) else (none)) else (none)))) = some (r1, r2, r3, r4) := by rw [if_neg (show ¬ (false = true) by decide)] at H; exact H
         clear H
         have H := H1
         clear H1
         by_cases c89 : x10_35 < 2
         case pos =>
          rw [if_pos c89] at H
          have c89b0 : decide (x10_35 < 2) = true := decide_eq_true c89
          clear c89
          obtain ⟨y260, hy260⟩ : ∃ y_ : List Int, y_ = (([x10_35] : List Int)) := ⟨_, rfl⟩
          replace H : (if x250001_3.length + y260.length < 17592186044416 then (if x8_3 < (l0_2.length : Int) then ((some (([wrap64 (1 * (rd l0_2 x8_3))] : List Int) : List Int)).bind fun y267 => (if x250002_3.length + y267.length < 17592186044416 then (quadratref06_Cut.l1 kj78 l1 (wrap64 (x8_3 + 1)) a0_0 l0_1 l0_2 x250000_78 (x250001_3 ++ y260) (x250002_3 ++ y267)) else (none))) else (none)) else (none)) = some (r1, r2, r3, r4) := by first | (rw [hy260]; with_reducible exact H) | (have H2_ := (Option.bind_some _ _).symm.trans H; rw [hy260]; with_reducible exact H2_) | (have H2_ := (Option.bind_some _ _).symm.trans H; with_reducible exact H2_) | with_reducible exact H | (rw [hy260]; exact H) | exact H
          have Ny260 := Aside0.mk hy260
          clear hy260
          by_cases c90 : x250001_3.length + y260.length < 17592186044416
          case neg =>
           rw [if_neg c90] at H
           exact absurd H (by simp)
          rw [if_pos c90] at H
          have LMc90 := Aside0.mk c90
          clear c90
          obtain ⟨y263, hy263⟩ : ∃ y_ : List Int, y_ = (x250001_3 ++ y260) := ⟨_, rfl⟩
          replace H : (if x8_3 < (l0_2.length : Int) then ((some (([wrap64 (1 * (rd l0_2 x8_3))] : List Int) : List Int)).bind fun y267 => (if x250002_3.length + y267.length < 17592186044416 then (quadratref06_Cut.l1 kj78 l1 (wrap64 (x8_3 + 1)) a0_0 l0_1 l0_2 x250000_78 y263 (x250002_3 ++ y267)) else (none))) else (none)) = some (r1, r2, r3, r4) := by first | (rw [hy263]; with_reducible exact H) | (have H2_ := (Option.bind_some _ _).symm.trans H; rw [hy263]; with_reducible exact H2_) | (have H2_ := (Option.bind_some _ _).symm.trans H; with_reducible exact H2_) | with_reducible exact H | (rw [hy263]; exact H) | exact H
          have Ny263 := Aside0.mk hy263
          clear hy263
          by_cases c91 : x8_3 < (l0_2.length : Int)
          case neg =>
           rw [if_neg c91] at H
           exact absurd H (by simp)
          rw [if_pos c91] at H
          have c91b0 : decide (x8_3 < (l0_2.length : Int)) = true := decide_eq_true c91
          clear c91
          obtain ⟨y267, hy267⟩ : ∃ y_ : List Int, y_ = (([wrap64 (1 * (rd l0_2 x8_3))] : List Int)) := ⟨_, rfl⟩
          replace H : (if x250002_3.length + y267.length < 17592186044416 then (quadratref06_Cut.l1 kj78 l1 (wrap64 (x8_3 + 1)) a0_0 l0_1 l0_2 x250000_78 y263 (x250002_3 ++ y267)) else (none)) = some (r1, r2, r3, r4) := by first | (rw [hy267]; with_reducible exact H) | (have H2_ := (Option.bind_some _ _).symm.trans H; rw [hy267]; with_reducible exact H2_) | (have H2_ := (Option.bind_some _ _).symm.trans H; with_reducible exact H2_) | with_reducible exact H | (rw [hy267]; exact H) | exact H
          have Ny267 := Aside0.mk hy267
          clear hy267
          by_cases c92 : x250002_3.length + y267.length < 17592186044416
          case neg =>
           rw [if_neg c92] at H
           exact absurd H (by simp)
          rw [if_pos c92] at H
          have LMc92 := Aside0.mk c92
          clear c92
          obtain ⟨y270, hy270⟩ : ∃ y_ : List Int, y_ = (x250002_3 ++ y267) := ⟨_, rfl⟩
          replace H : (quadratref06_Cut.l1 kj78 l1 (wrap64 (x8_3 + 1)) a0_0 l0_1 l0_2 x250000_78 y263 y270) = some (r1, r2, r3, r4) := by first | (rw [hy270]; with_reducible exact H) | (have H2_ := (Option.bind_some _ _).symm.trans H; rw [hy270]; with_reducible exact H2_) | (have H2_ := (Option.bind_some _ _).symm.trans H; with_reducible exact H2_) | with_reducible exact H | (rw [hy270]; exact H) | exact H
          have Ny270 := Aside0.mk hy270
          clear hy270
          have H' := Aside0.mk H
          clear H
          have p259 : 0 ≤ (x8_3 : Int) := of_decide_eq_true (by first | (with_reducible assumption) | assumption)
          have q259 : x8_3 < (l1.length : Int) := of_decide_eq_true (by first | (with_reducible assumption) | assumption)
          obtain ⟨ad259, e259, hx259_0, hx259_1, hx259_2, hx259_3, hx259_4⟩ := at_T58 HR1.out x8_3 p259 q259
          (try rw [← Nbq87.out] at hx259_0)
          obtain rfl : ad250 = ad259 := (by injection e259)
          replace hx259_0 := (HB.out.cell (World.block_lt_of_cell? w _ hx259_0)).trans hx259_0
          replace hx259_1 := (HB.out.cell (World.block_lt_of_cell? w _ hx259_1)).trans hx259_1
          replace hx259_2 := (HB.out.cell (World.block_lt_of_cell? w _ hx259_2)).trans hx259_2
          replace hx259_3 := (HB.out.cell (World.block_lt_of_cell? w _ hx259_3)).trans hx259_3
          replace hx259_4 := (HB.out.cell (World.block_lt_of_cell? w _ hx259_4)).trans hx259_4
          replace p259 := eq_true p259
          replace q259 := eq_true q259
          obtain ⟨Ao93, co93, eo93⟩ := Kd.R_slice HO_250001.out
          subst eo93
          obtain ⟨Ao94, co94, eo94⟩ := Kd.R_slice HO_250002.out
          subst eo94
          try go_wp2
          have n0_ := Aside0.mk (Kd.R_drew HO_250001.out)
          have n1_ := Aside0.mk (Kd.R_drew HO_250002.out)
          have n2_ := Aside0.mk (blk_drew BK243.out)
          have n3_ := Aside0.mk (blk_drew BK244.out)
          have n4_ := Aside0.mk (blk_drew BK249.out)
          have n5_ := Aside0.mk (blk_drew BK252.out)
          have n6_ := Aside0.mk (below_drew1 HB.out)
          clear HO_250001
          clear HO_250002
          clear BK243
          clear BK244
          clear BK249
          clear BK252
          clear HB
          have HO_250001 := n0_
          have HO_250002 := n1_
          have BK243 := n2_
          have BK244 := n3_
          have BK249 := n4_
          have BK252 := n5_
          have HB := n6_
          clear n0_ n1_ n2_ n3_ n4_ n5_ n6_
          have p266 : 0 ≤ (x8_3 : Int) := of_decide_eq_true (by first | (with_reducible assumption) | assumption)
          have q266 : x8_3 < (l0_2.length : Int) := of_decide_eq_true (by first | (with_reducible assumption) | assumption)
          obtain ⟨ad266, e266, hx266_0⟩ := Kd.at_int HR0_2.out x8_3 p266 q266
          have hw266_0 := hx266_0
          cases e266
          replace hx266_0 := (HB.out.cell (World.block_lt_of_cell? w _ hx266_0)).trans hx266_0
          replace p266 := eq_true p266
          replace q266 := eq_true q266
          refine start_ (n := 20) (S := fun w' => w'.cell? ⟨gb249, 0, none⟩ = some (.int .i64 x250000_78) ∧ w'.cell? ⟨gb249, 1, none⟩ = some (.slice Ao93 x250001_3.length co93) ∧ w'.cell? ⟨gb249, 2, none⟩ = some (.slice Ao94 x250002_3.length co94) ∧ w'.cell? ⟨gb243, 0, none⟩ = some (.int .i64 a0_0) ∧ w'.cell? ⟨gb243, 1, none⟩ = some (.slice A0_1 l0_1.length c0_1) ∧ w'.cell? ⟨gb243, 2, none⟩ = some (.slice (some ad266) l0_2.length c0_2) ∧ w'.cell? (ad266.add (x8_3).toNat) = some (.int .i64 (rd l0_2 x8_3))) (ds := [17, 19]) #[false, false, false, false, false, false, false, false, false, false, false, false, false, false, false, false, false, false, false, false] (by kernel_rfl) rfl rfl ⟨(blk_cell BK249.out 0).trans rfl, (blk_cell BK249.out 1).trans rfl, (blk_cell BK249.out 2).trans rfl, (blk_cell BK243.out 0).trans rfl, (blk_cell BK243.out 1).trans rfl, (blk_cell BK243.out 2).trans rfl, ((HB.out.cell (World.block_lt_of_cell? w _ hw266_0)).trans hw266_0)⟩ (fun hHeld => ?_); refine with_tabW quadratref06_Cut.tab24 quadratref06_Cut.bits24 (fun HT_ HW_ => ?_)
          generalize wc.drew = w95 at HO_250001 HO_250002 BK243 BK244 BK249 BK252 HB hx266_0 hHeld ⊢
          refine pure_ (i := 0) (N := some 140) (v := ?_) (a' := ?_) #[true, false, false, false, false, false, false, false, false, false, false, false, false, false, false, false, false, false, false, false] rfl rfl (any_of HT_.out (by kernel_rfl)) (fun _ _ _ h => h) (Or.inl ⟨by rfl, ?_⟩) ?_ ?_
          rotate_left
          · intro w'; go_simp; with_reducible rfl
          rotate_left
          · simp only [Act.put, List.setIfInBounds_toArray, List.set_cons_zero, List.set_cons_succ, i64_w, i32_w]; rfl
          refine pure_ (i := 2) (N := some 142) (v := ?_) (a' := ?_) #[true, false, true, false, false, false, false, false, false, false, false, false, false, false, false, false, false, false, false, false] rfl rfl (any_of HT_.out (by kernel_rfl)) (fun _ _ _ h => h) (Or.inl ⟨by rfl, ?_⟩) ?_ ?_
          rotate_left
          · intro w'; go_simp; with_reducible rfl
          rotate_left
          · simp only [Act.put, List.setIfInBounds_toArray, List.set_cons_zero, List.set_cons_succ, i64_w, i32_w]; rfl
          refine pure_ (i := 5) (N := some 145) (v := ?_) (a' := ?_) #[true, false, true, false, false, true, false, false, false, false, false, false, false, false, false, false, false, false, false, false] rfl rfl (any_of HT_.out (by kernel_rfl)) (fun _ _ _ h => h) (Or.inl ⟨by rfl, ?_⟩) ?_ ?_
          rotate_left
          · intro w'; go_simp; with_reducible rfl
          rotate_left
          · simp only [Act.put, List.setIfInBounds_toArray, List.set_cons_zero, List.set_cons_succ, i64_w, i32_w]; rfl
          refine pure_ (i := 7) (N := some 147) (v := ?_) (a' := ?_) #[true, false, true, false, false, true, false, true, false, false, false, false, false, false, false, false, false, false, false, false] rfl rfl (any_of HT_.out (by kernel_rfl)) (fun _ _ _ h => h) (Or.inl ⟨by rfl, ?_⟩) ?_ ?_
          rotate_left
          · intro w'; go_simp; with_reducible rfl
          rotate_left
          · simp only [Act.put, List.setIfInBounds_toArray, List.set_cons_zero, List.set_cons_succ, i64_w, i32_w]; rfl
          refine pure_ (i := 8) (N := some 148) (v := ?_) (a' := ?_) #[true, false, true, false, false, true, false, true, true, false, false, false, false, false, false, false, false, false, false, false] rfl rfl (any_of HT_.out (by kernel_rfl)) (fun _ _ _ h => h) (Or.inl ⟨by rfl, ?_⟩) ?_ ?_
          rotate_left
          · intro w'; go_simp; with_reducible rfl
          rotate_left
          · simp only [Act.put, List.setIfInBounds_toArray, List.set_cons_zero, List.set_cons_succ, i64_w, i32_w]; rfl
          refine pure_ (i := 10) (N := some 150) (v := ?_) (a' := ?_) #[true, false, true, false, false, true, false, true, true, false, true, false, false, false, false, false, false, false, false, false] rfl rfl (any_of HT_.out (by kernel_rfl)) (fun _ _ _ h => h) (Or.inl ⟨by rfl, ?_⟩) ?_ ?_
          rotate_left
          · intro w'; go_simp; with_reducible rfl
          rotate_left
          · simp only [Act.put, List.setIfInBounds_toArray, List.set_cons_zero, List.set_cons_succ, i64_w, i32_w]; rfl
          refine take_ (i := 1) (N := some 141) (v := ?_) (a' := ?_) #[true, true, true, false, false, true, false, true, true, false, true, false, false, false, false, false, false, false, false, false] rfl rfl (take_ofW HT_.out HW_.out (by kernel_rfl)) (fun _ _ _ h => h) (Or.inl ⟨by rfl, ?_⟩) hHeld ?_ ?_
          rotate_left
          · rintro w' ⟨s0, s1, s2, s3, s4, s5, s6⟩
            go_simp
            with_reducible rfl
          rotate_left
          · simp only [Act.put, List.setIfInBounds_toArray, List.set_cons_zero, List.set_cons_succ, i64_w, i32_w]; rfl
          refine take_ (i := 6) (N := some 146) (v := ?_) (a' := ?_) #[true, true, true, false, false, true, true, true, true, false, true, false, false, false, false, false, false, false, false, false] rfl rfl (take_ofW HT_.out HW_.out (by kernel_rfl)) (fun _ _ _ h => h) (Or.inl ⟨by rfl, ?_⟩) hHeld ?_ ?_
          rotate_left
          · rintro w' ⟨s0, s1, s2, s3, s4, s5, s6⟩
            go_simp
            with_reducible rfl
          rotate_left
          · simp only [Act.put, List.setIfInBounds_toArray, List.set_cons_zero, List.set_cons_succ, i64_w, i32_w]; rfl
          refine take_ (i := 9) (N := some 149) (v := ?_) (a' := ?_) #[true, true, true, false, false, true, true, true, true, true, true, false, false, false, false, false, false, false, false, false] rfl rfl (take_ofW HT_.out HW_.out (by kernel_rfl)) (fun _ _ _ h => h) (Or.inl ⟨by rfl, ?_⟩) hHeld ?_ ?_
          rotate_left
          · rintro w' ⟨s0, s1, s2, s3, s4, s5, s6⟩
            go_simp
            with_reducible rfl
          rotate_left
          · simp only [Act.put, List.setIfInBounds_toArray, List.set_cons_zero, List.set_cons_succ, i64_w, i32_w]; rfl
          refine pure_ (i := 11) (N := some 151) (v := ?_) (a' := ?_) #[true, true, true, false, false, true, true, true, true, true, true, true, false, false, false, false, false, false, false, false] rfl rfl (any_of HT_.out (by kernel_rfl)) (fun _ _ _ h => h) (Or.inl ⟨by rfl, ?_⟩) ?_ ?_
          rotate_left
          · intro w'; go_simp; with_reducible rfl
          rotate_left
          · simp only [Act.put, List.setIfInBounds_toArray, List.set_cons_zero, List.set_cons_succ, i64_w, i32_w]; rfl
          refine take_ (i := 12) (N := some 152) (v := ?_) (a' := ?_) #[true, true, true, false, false, true, true, true, true, true, true, true, true, false, false, false, false, false, false, false] rfl rfl (take_ofW HT_.out HW_.out (by kernel_rfl)) (fun _ _ _ h => h) (Or.inl ⟨by rfl, ?_⟩) hHeld ?_ ?_
          rotate_left
          · rintro w' ⟨s0, s1, s2, s3, s4, s5, s6⟩
            go_simp
            with_reducible rfl
          rotate_left
          · simp only [Act.put, List.setIfInBounds_toArray, List.set_cons_zero, List.set_cons_succ, i64_w, i32_w]; rfl
          refine pure_ (i := 13) (N := some 153) (v := ?_) (a' := ?_) #[true, true, true, false, false, true, true, true, true, true, true, true, true, true, false, false, false, false, false, false] rfl rfl (any_of HT_.out (by kernel_rfl)) (fun _ _ _ h => h) (Or.inl ⟨by rfl, ?_⟩) ?_ ?_
          rotate_left
          · intro w'; go_simp; with_reducible rfl
          rotate_left
          · simp only [Act.put, List.setIfInBounds_toArray, List.set_cons_zero, List.set_cons_succ, i64_w, i32_w]; rfl
          refine join_ (σ := Value × Value × Value) 4 #[true, true, true, true, true, true, true, true, true, true, true, true, true, true, true, false, true, false, false, false] (fun s_ => [(143, s_.1), (144, s_.2.1), (154, s_.2.2), (156, .pointer (some ⟨gb249, 1, none⟩))]) (fun s_ w' => (w'.cell? ⟨gb249, 0, none⟩ = some (.int .i64 x250000_78) ∧ w'.cell? ⟨gb249, 1, none⟩ = some (.slice Ao93 x250001_3.length co93) ∧ w'.cell? ⟨gb249, 2, none⟩ = some (.slice Ao94 x250002_3.length co94) ∧ w'.cell? ⟨gb243, 0, none⟩ = some (.int .i64 a0_0) ∧ w'.cell? ⟨gb243, 1, none⟩ = some (.slice A0_1 l0_1.length c0_1) ∧ w'.cell? ⟨gb243, 2, none⟩ = some (.slice (some ad266) l0_2.length c0_2) ∧ w'.cell? (ad266.add (x8_3).toNat) = some (.int .i64 (rd l0_2 x8_3))) ∧ (Kd.R (Kd.int .i64) 3 w' w.heap.size (fun k_ => some k_ ≠ (s_.2.1 : Value).ownBlock ∧ some k_ ≠ (s_.2.2 : Value).ownBlock ∧ some k_ ≠ (.slice Ao94 x250002_3.length co94 : Value).ownBlock) s_.1 y260) ∧ (Kd.R (Kd.int .i64) 3 w' w.heap.size (fun k_ => some k_ ≠ (s_.1 : Value).ownBlock ∧ some k_ ≠ (s_.2.2 : Value).ownBlock ∧ some k_ ≠ (.slice Ao94 x250002_3.length co94 : Value).ownBlock) s_.2.1 y263) ∧ (Kd.R (Kd.int .i64) 3 w' w.heap.size (fun k_ => some k_ ≠ (s_.1 : Value).ownBlock ∧ some k_ ≠ (s_.2.1 : Value).ownBlock ∧ some k_ ≠ (.slice Ao94 x250002_3.length co94 : Value).ownBlock) s_.2.2 y267) ∧ (Kd.R (Kd.int .i64) 3 w' w.heap.size (fun k_ => some k_ ≠ (s_.1 : Value).ownBlock ∧ some k_ ≠ (s_.2.1 : Value).ownBlock ∧ some k_ ≠ (s_.2.2 : Value).ownBlock) (.slice Ao94 x250002_3.length co94) x250002_3) ∧ (w'.heap[gb243]? = some (.cells #[.int .i64 a0_0, .slice A0_1 l0_1.length c0_1, .slice (some ad266) l0_2.length c0_2] 31 (0, 0))) ∧ (w'.heap[gb244]? = some (.cells #[.int .i64 x245000_3, .slice none 0 0, .slice none 0 0] 31 (0, 0))) ∧ (w'.heap[gb249]? = some (.cells #[.int .i64 x250000_78, .slice Ao93 x250001_3.length co93, .slice Ao94 x250002_3.length co94] 31 (0, 0))) ∧ (w'.heap[gb252]? = some (.cells #[.int .i64 ((rd_T58 l1 x8_3).f2.f0), .int .i64 ((rd_T58 l1 x8_3).f2.f1), .int .i64 ((rd_T58 l1 x8_3).f2.f2)] 23 (0, 0))) ∧ (Below w.heap.size w w')) ?_ ?_
          rotate_left
          · intro hCont
            refine two_ (i := 3) (j := 14) (Ni := some 143) (Nj := some 154) #[true, true, true, true, false, true, true, true, true, true, true, true, true, true, false, false, false, false, false, false] #[true, true, true, false, false, true, true, true, true, true, true, true, true, true, true, false, false, false, false, false] rfl rfl rfl rfl (two_of HT_.out (by kernel_rfl)) (by decide) (by decide) (fun K hK => ?_) (fun K hK => ?_)
            · skip
              refine Kd.R_lit_step (Kd.int .i64) _ 3 ?hg (N := 143) ?hd (xs := ([x10_35] : List Int)) (inner := [.int .i64 x10_35]) (ok := fun _ => True) (okp := fun _ => True) ?hr ?hp (fun _ hk => hk) trivial (Below.refl _ _) (Nat.le_refl _) (by simp) ?_; (case hd => rfl); (case hg => rfl); (case hr => first | (go_simp; done) | (go_simp; rfl)); (case hp => exact (Reps.one (show Kd.M (Kd.int .i64) _ _ _ x10_35 [.int .i64 x10_35] from rfl) (Reps.none _ _)))
              intro v261 w96 ho97 hb hg_ hnew_
              clear hg_ hnew_
              (first | rw [← Ny260.out] at ho97 | (simp only [Int.reduceToNat] at ho97; rw [← Ny260.out] at ho97))
              have n0_ := Aside0.mk (Kd.R_elder' (by (with_reducible repeat first | apply Kd.R_alloc | apply Kd.R_drewN | apply Kd.R_drew); exact HO_250001.out) (Kd.R_base ho97) hb)
              have n1_ := Aside0.mk (Kd.R_elder' (by (with_reducible repeat first | apply Kd.R_alloc | apply Kd.R_drewN | apply Kd.R_drew); exact HO_250002.out) (Kd.R_base ho97) hb)
              have n2_ := Aside0.mk (Kd.R_lower (Kd.R_new' (Kd.R_new' ho97 (Kd.R_lt (by (with_reducible repeat first | apply Kd.R_alloc | apply Kd.R_drewN | apply Kd.R_drew); exact HO_250001.out))) (Kd.R_lt (by (with_reducible repeat first | apply Kd.R_alloc | apply Kd.R_drewN | apply Kd.R_drew); exact HO_250002.out))) (below_size (by repeat (first | (with_reducible first | exact HB.out | apply below_alloc | apply pw_below_drewN | apply below_drew1 | refine below_set ?_ GE243.out | refine below_set ?_ GE244.out | refine below_set ?_ GE249.out | refine below_set ?_ GE252.out) | exact HB.out))))
              have n3_ := Aside0.mk (blk_below (g := gb243) (o := .cells #[.int .i64 a0_0, .slice A0_1 l0_1.length c0_1, .slice (some ad266) l0_2.length c0_2] 31 (0, 0)) (by (with_reducible repeat first | apply blk_drewN | apply blk_drew | apply blk_alloc); exact BK243.out) hb)
              have n4_ := Aside0.mk (blk_below (g := gb244) (o := .cells #[.int .i64 x245000_3, .slice none 0 0, .slice none 0 0] 31 (0, 0)) (by (with_reducible repeat first | apply blk_drewN | apply blk_drew | apply blk_alloc); exact BK244.out) hb)
              have n5_ := Aside0.mk (blk_below (g := gb249) (o := .cells #[.int .i64 x250000_78, .slice Ao93 x250001_3.length co93, .slice Ao94 x250002_3.length co94] 31 (0, 0)) (by (with_reducible repeat first | apply blk_drewN | apply blk_drew | apply blk_alloc); exact BK249.out) hb)
              have n6_ := Aside0.mk (blk_below (g := gb252) (o := .cells #[.int .i64 ((rd_T58 l1 x8_3).f2.f0), .int .i64 ((rd_T58 l1 x8_3).f2.f1), .int .i64 ((rd_T58 l1 x8_3).f2.f2)] 23 (0, 0)) (by (with_reducible repeat first | apply blk_drewN | apply blk_drew | apply blk_alloc); exact BK252.out) hb)
              have n7_ := Aside0.mk (below_step (by repeat (first | (with_reducible first | exact HB.out | apply below_alloc | apply pw_below_drewN | apply below_drew1 | refine below_set ?_ GE243.out | refine below_set ?_ GE244.out | refine below_set ?_ GE249.out | refine below_set ?_ GE252.out) | exact HB.out)) hb)
              clear HO_250001
              clear HO_250002
              clear BK243
              clear BK244
              clear BK249
              clear BK252
              clear HB
              have HO_250001 := n0_
              have HO_250002 := n1_
              have HO262 := n2_
              have BK243 := n3_
              have BK244 := n4_
              have BK249 := n5_
              have BK252 := n6_
              have HB := n7_
              clear n0_ n1_ n2_ n3_ n4_ n5_ n6_ n7_
              clear hb ho97
              obtain ⟨Ao99, co99, eo99⟩ := Kd.R_slice HO262.out
              (first | subst eo99 | (injection eo99 with f1_ f2_ f3_; have f4_ := f1_.symm; have f5_ := f3_.symm; clear f1_ f2_ f3_; subst f4_; subst f5_))
              refine hK.out _ _ ⟨(blk_cell BK249.out 0).trans rfl, (blk_cell BK249.out 1).trans rfl, (blk_cell BK249.out 2).trans rfl, (blk_cell BK243.out 0).trans rfl, (blk_cell BK243.out 1).trans rfl, (blk_cell BK243.out 2).trans rfl, ((HB.out.cell (World.block_lt_of_cell? w _ hw266_0)).trans hw266_0)⟩ (fun hHeld => ?_)
              clear hK K
              refine norm_ (a' := ?_) ?_ ?_
              rotate_left
              · show Act.put _ (some 143) _ = _
                simp only [Act.put, List.setIfInBounds_toArray, List.set_cons_zero, List.set_cons_succ, i64_w, i32_w]
                rfl
              refine two_ (i := 4) (j := 14) (Ni := some 144) (Nj := some 154) #[true, true, true, true, true, true, true, true, true, true, true, true, true, true, false, false, false, false, false, false] #[true, true, true, true, false, true, true, true, true, true, true, true, true, true, true, false, false, false, false, false] rfl rfl rfl rfl (two_of HT_.out (by kernel_rfl)) (by decide) (by decide) (fun K hK => ?_) (fun K hK => ?_)
              · skip
                refine Kd.R_append_rows_step (Kd.int .i64) (w0 := w) w.heap.size (by rfl) (.tmp 141) (.tmp 143) 29 3 (.int .i64 0) 8 rfl Try.underlying29 info3 rfl (by decide) (by omega) (.slice Ao93 x250001_3.length co93) x250001_3 y260 _ _ _ (fun k_ => some k_ ≠ (.slice Ao94 x250002_3.length co94 : Value).ownBlock ∧ some k_ ≠ (.slice Ao99 y260.length co99 : Value).ownBlock) (fun _ => False) rfl rfl ?aO ?aR (fun _ _ h => h) (fun _ h => h.elim) ?aF ?aB ?aS ?aL ?_
                (case aR => repeat (first | exact (Kd.R_reads' HO262.out).2.2 | (with_reducible refine Kd.C_alloc ?_ _) | (with_reducible refine Kd.C_drewN ?_ _) | (with_reducible refine Kd.C_drew ?_)))
                (case aB => exact (by repeat (first | (with_reducible first | exact HB.out | apply below_alloc | apply pw_below_drewN | apply below_drew1 | refine below_set ?_ GE243.out | refine below_set ?_ GE244.out | refine below_set ?_ GE249.out | refine below_set ?_ GE252.out) | exact HB.out)))
                (case aF => exact (fun k_ hk => ⟨Kd.fresh' (Kd.R_lt (by (with_reducible repeat first | apply Kd.R_alloc | apply Kd.R_drewN | apply Kd.R_drew); exact HO_250002.out)) k_ hk, Kd.fresh' (Kd.R_lt (by (with_reducible repeat first | apply Kd.R_alloc | apply Kd.R_drewN | apply Kd.R_drew); exact HO262.out)) k_ hk⟩))
                (case aO => exact (by (with_reducible repeat first | apply Kd.R_alloc | apply Kd.R_drewN | apply Kd.R_drew); exact HO_250001.out))
                (case aS => exact (below_size (by repeat (first | (with_reducible first | exact HB.out | apply below_alloc | apply pw_below_drewN | apply below_drew1 | refine below_set ?_ GE243.out | refine below_set ?_ GE244.out | refine below_set ?_ GE249.out | refine below_set ?_ GE252.out) | exact HB.out))))
                (case aL => have := LMc90.out; omega)
                intro v264 w98 ho hb hg hat
                rw [← Ny263.out] at ho
                have n0_ := Aside0.mk (Kd.R_after (ok := (fun k_ => some k_ ≠ (.slice Ao99 y260.length co99 : Value).ownBlock)) (by (with_reducible repeat first | apply Kd.R_alloc | apply Kd.R_drewN | apply Kd.R_drew); exact Kd.R_mono HO_250002.out (fun _ hk => ⟨hk.2, hk.1⟩)) hg hat)
                have n1_ := Aside0.mk (blk_grown (g := gb243) (o := .cells #[.int .i64 a0_0, .slice A0_1 l0_1.length c0_1, .slice (some ad266) l0_2.length c0_2] 31 (0, 0)) (by (with_reducible repeat first | apply blk_drewN | apply blk_drew | apply blk_alloc); exact BK243.out) hg (Kd.R_ne HO_250001.out BK243.out (by decide)))
                have n2_ := Aside0.mk (blk_grown (g := gb244) (o := .cells #[.int .i64 x245000_3, .slice none 0 0, .slice none 0 0] 31 (0, 0)) (by (with_reducible repeat first | apply blk_drewN | apply blk_drew | apply blk_alloc); exact BK244.out) hg (Kd.R_ne HO_250001.out BK244.out (by decide)))
                have n3_ := Aside0.mk (blk_grown (g := gb249) (o := .cells #[.int .i64 x250000_78, .slice Ao93 x250001_3.length co93, .slice Ao94 x250002_3.length co94] 31 (0, 0)) (by (with_reducible repeat first | apply blk_drewN | apply blk_drew | apply blk_alloc); exact BK249.out) hg (Kd.R_ne HO_250001.out BK249.out (by decide)))
                have n4_ := Aside0.mk (blk_grown (g := gb252) (o := .cells #[.int .i64 ((rd_T58 l1 x8_3).f2.f0), .int .i64 ((rd_T58 l1 x8_3).f2.f1), .int .i64 ((rd_T58 l1 x8_3).f2.f2)] 23 (0, 0)) (by (with_reducible repeat first | apply blk_drewN | apply blk_drew | apply blk_alloc); exact BK252.out) hg (Kd.R_ne HO_250001.out BK252.out (by decide)))
                have n5_ := Aside0.mk (Kd.R_after (ok := (fun k_ => some k_ ≠ (.slice Ao94 x250002_3.length co94 : Value).ownBlock)) (by (with_reducible repeat first | apply Kd.R_alloc | apply Kd.R_drewN | apply Kd.R_drew); exact Kd.R_mono HO262.out (fun _ hk => ⟨hk.2, hk.1.2⟩)) hg hat)
                have n6_ := Aside0.mk (hb)
                have n7_ := Aside0.mk (ho)
                clear HO_250002
                clear BK243
                clear BK244
                clear BK249
                clear BK252
                clear HO262
                clear HB
                clear HO_250001
                have HO_250002 := n0_
                have BK243 := n1_
                have BK244 := n2_
                have BK249 := n3_
                have BK252 := n4_
                have HO262 := n5_
                have HB := n6_
                have HO265 := n7_
                clear n0_ n1_ n2_ n3_ n4_ n5_ n6_ n7_
                clear ho hb hg hat
                refine hK.out _ _ ⟨(blk_cell BK249.out 0).trans rfl, (blk_cell BK249.out 1).trans rfl, (blk_cell BK249.out 2).trans rfl, (blk_cell BK243.out 0).trans rfl, (blk_cell BK243.out 1).trans rfl, (blk_cell BK243.out 2).trans rfl, ((HB.out.cell (World.block_lt_of_cell? w _ hw266_0)).trans hw266_0)⟩ (fun hHeld => ?_)
                clear hK K
                refine norm_ (a' := ?_) ?_ ?_
                rotate_left
                · show Act.put _ (some 144) _ = _
                  simp only [Act.put, List.setIfInBounds_toArray, List.set_cons_zero, List.set_cons_succ, i64_w, i32_w]
                  rfl
                refine pure_ (i := 16) (N := some 156) (v := ?_) (a' := ?_) #[true, true, true, true, true, true, true, true, true, true, true, true, true, true, false, false, true, false, false, false] rfl rfl (any_of HT_.out (by kernel_rfl)) (fun _ _ _ h => h) (Or.inl ⟨by rfl, ?_⟩) ?_ ?_
                rotate_left
                · intro w'; go_simp; with_reducible rfl
                rotate_left
                · simp only [Act.put, List.setIfInBounds_toArray, List.set_cons_zero, List.set_cons_succ, i64_w, i32_w]; rfl
                refine one_ (i := 14) (N := some 154) #[true, true, true, true, true, true, true, true, true, true, true, true, true, true, true, false, true, false, false, false] rfl rfl (one_of HT_.out (by kernel_rfl)) (by decide) (fun K hK => ?_)
                refine Kd.R_lit_step (Kd.int .i64) _ 3 ?hg (N := 154) ?hd (xs := ([wrap64 (1 * (rd l0_2 x8_3))] : List Int)) (inner := [.int .i64 (wrap64 (1 * (rd l0_2 x8_3)))]) (ok := fun _ => True) (okp := fun _ => True) ?hr ?hp (fun _ hk => hk) trivial (Below.refl _ _) (Nat.le_refl _) (by simp) ?_; (case hd => rfl); (case hg => rfl); (case hr => first | (go_simp; done) | (go_simp; rfl)); (case hp => exact (Reps.one (show Kd.M (Kd.int .i64) _ _ _ (wrap64 (1 * (rd l0_2 x8_3))) [.int .i64 (wrap64 (1 * (rd l0_2 x8_3)))] from rfl) (Reps.none _ _)))
                intro v268 w100 ho101 hb hg_ hnew_
                clear hg_ hnew_
                (first | rw [← Ny267.out] at ho101 | (simp only [Int.reduceToNat] at ho101; rw [← Ny267.out] at ho101))
                have n0_ := Aside0.mk (Kd.R_elder' (by (with_reducible repeat first | apply Kd.R_alloc | apply Kd.R_drewN | apply Kd.R_drew); exact HO_250002.out) (Kd.R_base ho101) hb)
                have n1_ := Aside0.mk (Kd.R_elder' (by (with_reducible repeat first | apply Kd.R_alloc | apply Kd.R_drewN | apply Kd.R_drew); exact HO262.out) (Kd.R_base ho101) hb)
                have n2_ := Aside0.mk (Kd.R_elder' (by (with_reducible repeat first | apply Kd.R_alloc | apply Kd.R_drewN | apply Kd.R_drew); exact HO265.out) (Kd.R_base ho101) hb)
                have n3_ := Aside0.mk (Kd.R_lower (Kd.R_new' (Kd.R_new' (Kd.R_new' ho101 (Kd.R_lt (by (with_reducible repeat first | apply Kd.R_alloc | apply Kd.R_drewN | apply Kd.R_drew); exact HO_250002.out))) (Kd.R_lt (by (with_reducible repeat first | apply Kd.R_alloc | apply Kd.R_drewN | apply Kd.R_drew); exact HO262.out))) (Kd.R_lt (by (with_reducible repeat first | apply Kd.R_alloc | apply Kd.R_drewN | apply Kd.R_drew); exact HO265.out))) (below_size (by repeat (first | (with_reducible first | exact HB.out | apply below_alloc | apply pw_below_drewN | apply below_drew1 | refine below_set ?_ GE243.out | refine below_set ?_ GE244.out | refine below_set ?_ GE249.out | refine below_set ?_ GE252.out) | exact HB.out))))
                have n4_ := Aside0.mk (blk_below (g := gb243) (o := .cells #[.int .i64 a0_0, .slice A0_1 l0_1.length c0_1, .slice (some ad266) l0_2.length c0_2] 31 (0, 0)) (by (with_reducible repeat first | apply blk_drewN | apply blk_drew | apply blk_alloc); exact BK243.out) hb)
                have n5_ := Aside0.mk (blk_below (g := gb244) (o := .cells #[.int .i64 x245000_3, .slice none 0 0, .slice none 0 0] 31 (0, 0)) (by (with_reducible repeat first | apply blk_drewN | apply blk_drew | apply blk_alloc); exact BK244.out) hb)
                have n6_ := Aside0.mk (blk_below (g := gb249) (o := .cells #[.int .i64 x250000_78, .slice Ao93 x250001_3.length co93, .slice Ao94 x250002_3.length co94] 31 (0, 0)) (by (with_reducible repeat first | apply blk_drewN | apply blk_drew | apply blk_alloc); exact BK249.out) hb)
                have n7_ := Aside0.mk (blk_below (g := gb252) (o := .cells #[.int .i64 ((rd_T58 l1 x8_3).f2.f0), .int .i64 ((rd_T58 l1 x8_3).f2.f1), .int .i64 ((rd_T58 l1 x8_3).f2.f2)] 23 (0, 0)) (by (with_reducible repeat first | apply blk_drewN | apply blk_drew | apply blk_alloc); exact BK252.out) hb)
                have n8_ := Aside0.mk (below_step (by repeat (first | (with_reducible first | exact HB.out | apply below_alloc | apply pw_below_drewN | apply below_drew1 | refine below_set ?_ GE243.out | refine below_set ?_ GE244.out | refine below_set ?_ GE249.out | refine below_set ?_ GE252.out) | exact HB.out)) hb)
                clear HO_250002
                clear HO262
                clear HO265
                clear BK243
                clear BK244
                clear BK249
                clear BK252
                clear HB
                have HO_250002 := n0_
                have HO262 := n1_
                have HO265 := n2_
                have HO269 := n3_
                have BK243 := n4_
                have BK244 := n5_
                have BK249 := n6_
                have BK252 := n7_
                have HB := n8_
                clear n0_ n1_ n2_ n3_ n4_ n5_ n6_ n7_ n8_
                clear hb ho101
                refine hK.out _ _ ⟨(blk_cell BK249.out 0).trans rfl, (blk_cell BK249.out 1).trans rfl, (blk_cell BK249.out 2).trans rfl, (blk_cell BK243.out 0).trans rfl, (blk_cell BK243.out 1).trans rfl, (blk_cell BK243.out 2).trans rfl, ((HB.out.cell (World.block_lt_of_cell? w _ hw266_0)).trans hw266_0)⟩ (fun hHeld => ?_)
                clear hK K
                refine norm_ (a' := ?_) ?_ ?_
                rotate_left
                · show Act.put _ (some 154) _ = _
                  simp only [Act.put, List.setIfInBounds_toArray, List.set_cons_zero, List.set_cons_succ, i64_w, i32_w]
                  rfl
                exact norm_ (by simp only [putAll, Act.put, List.setIfInBounds_toArray, List.set_cons_zero, List.set_cons_succ]) (hCont (.slice Ao99 y260.length co99, v264, v268) _ ⟨hHeld, (by (with_reducible repeat first | apply Kd.R_alloc | apply Kd.R_drewN | apply Kd.R_drew); exact Kd.R_mono HO262.out (fun _ hk => ⟨hk.1.2, ⟨hk.2, hk.1.1⟩⟩)), (by (with_reducible repeat first | apply Kd.R_alloc | apply Kd.R_drewN | apply Kd.R_drew); exact Kd.R_mono HO265.out (fun _ hk => ⟨hk.1.2, ⟨hk.2, hk.1.1⟩⟩)), (by (with_reducible repeat first | apply Kd.R_alloc | apply Kd.R_drewN | apply Kd.R_drew); exact Kd.R_mono HO269.out (fun _ hk => ⟨hk.1.2, ⟨hk.2, hk.1.1.2⟩⟩)), (by (with_reducible repeat first | apply Kd.R_alloc | apply Kd.R_drewN | apply Kd.R_drew); exact Kd.R_mono HO_250002.out (fun _ hk => ⟨hk.1.1, ⟨hk.1.2, hk.2⟩⟩)), (by (with_reducible repeat first | apply blk_drewN | apply blk_drew | apply blk_alloc); exact BK243.out), (by (with_reducible repeat first | apply blk_drewN | apply blk_drew | apply blk_alloc); exact BK244.out), (by (with_reducible repeat first | apply blk_drewN | apply blk_drew | apply blk_alloc); exact BK249.out), (by (with_reducible repeat first | apply blk_drewN | apply blk_drew | apply blk_alloc); exact BK252.out), (by repeat (first | (with_reducible first | exact HB.out | apply below_alloc | apply pw_below_drewN | apply below_drew1 | refine below_set ?_ GE243.out | refine below_set ?_ GE244.out | refine below_set ?_ GE249.out | refine below_set ?_ GE252.out) | exact HB.out))⟩)
              skip
              refine Kd.R_lit_step (Kd.int .i64) _ 3 ?hg (N := 154) ?hd (xs := ([wrap64 (1 * (rd l0_2 x8_3))] : List Int)) (inner := [.int .i64 (wrap64 (1 * (rd l0_2 x8_3)))]) (ok := fun _ => True) (okp := fun _ => True) ?hr ?hp (fun _ hk => hk) trivial (Below.refl _ _) (Nat.le_refl _) (by simp) ?_; (case hd => rfl); (case hg => rfl); (case hr => first | (go_simp; done) | (go_simp; rfl)); (case hp => exact (Reps.one (show Kd.M (Kd.int .i64) _ _ _ (wrap64 (1 * (rd l0_2 x8_3))) [.int .i64 (wrap64 (1 * (rd l0_2 x8_3)))] from rfl) (Reps.none _ _)))
              intro v268 w98 ho99 hb hg_ hnew_
              clear hg_ hnew_
              (first | rw [← Ny267.out] at ho99 | (simp only [Int.reduceToNat] at ho99; rw [← Ny267.out] at ho99))
              have n0_ := Aside0.mk (Kd.R_elder' (by (with_reducible repeat first | apply Kd.R_alloc | apply Kd.R_drewN | apply Kd.R_drew); exact HO_250001.out) (Kd.R_base ho99) hb)
              have n1_ := Aside0.mk (Kd.R_elder' (by (with_reducible repeat first | apply Kd.R_alloc | apply Kd.R_drewN | apply Kd.R_drew); exact HO_250002.out) (Kd.R_base ho99) hb)
              have n2_ := Aside0.mk (Kd.R_elder' (by (with_reducible repeat first | apply Kd.R_alloc | apply Kd.R_drewN | apply Kd.R_drew); exact HO262.out) (Kd.R_base ho99) hb)
              have n3_ := Aside0.mk (Kd.R_lower (Kd.R_new' (Kd.R_new' (Kd.R_new' ho99 (Kd.R_lt (by (with_reducible repeat first | apply Kd.R_alloc | apply Kd.R_drewN | apply Kd.R_drew); exact HO_250001.out))) (Kd.R_lt (by (with_reducible repeat first | apply Kd.R_alloc | apply Kd.R_drewN | apply Kd.R_drew); exact HO_250002.out))) (Kd.R_lt (by (with_reducible repeat first | apply Kd.R_alloc | apply Kd.R_drewN | apply Kd.R_drew); exact HO262.out))) (below_size (by repeat (first | (with_reducible first | exact HB.out | apply below_alloc | apply pw_below_drewN | apply below_drew1 | refine below_set ?_ GE243.out | refine below_set ?_ GE244.out | refine below_set ?_ GE249.out | refine below_set ?_ GE252.out) | exact HB.out))))
              have n4_ := Aside0.mk (blk_below (g := gb243) (o := .cells #[.int .i64 a0_0, .slice A0_1 l0_1.length c0_1, .slice (some ad266) l0_2.length c0_2] 31 (0, 0)) (by (with_reducible repeat first | apply blk_drewN | apply blk_drew | apply blk_alloc); exact BK243.out) hb)
              have n5_ := Aside0.mk (blk_below (g := gb244) (o := .cells #[.int .i64 x245000_3, .slice none 0 0, .slice none 0 0] 31 (0, 0)) (by (with_reducible repeat first | apply blk_drewN | apply blk_drew | apply blk_alloc); exact BK244.out) hb)
              have n6_ := Aside0.mk (blk_below (g := gb249) (o := .cells #[.int .i64 x250000_78, .slice Ao93 x250001_3.length co93, .slice Ao94 x250002_3.length co94] 31 (0, 0)) (by (with_reducible repeat first | apply blk_drewN | apply blk_drew | apply blk_alloc); exact BK249.out) hb)
              have n7_ := Aside0.mk (blk_below (g := gb252) (o := .cells #[.int .i64 ((rd_T58 l1 x8_3).f2.f0), .int .i64 ((rd_T58 l1 x8_3).f2.f1), .int .i64 ((rd_T58 l1 x8_3).f2.f2)] 23 (0, 0)) (by (with_reducible repeat first | apply blk_drewN | apply blk_drew | apply blk_alloc); exact BK252.out) hb)
              have n8_ := Aside0.mk (below_step (by repeat (first | (with_reducible first | exact HB.out | apply below_alloc | apply pw_below_drewN | apply below_drew1 | refine below_set ?_ GE243.out | refine below_set ?_ GE244.out | refine below_set ?_ GE249.out | refine below_set ?_ GE252.out) | exact HB.out)) hb)
              clear HO_250001
              clear HO_250002
              clear HO262
              clear BK243
              clear BK244
              clear BK249
              clear BK252
              clear HB
              have HO_250001 := n0_
              have HO_250002 := n1_
              have HO262 := n2_
              have HO269 := n3_
              have BK243 := n4_
              have BK244 := n5_
              have BK249 := n6_
              have BK252 := n7_
              have HB := n8_
              clear n0_ n1_ n2_ n3_ n4_ n5_ n6_ n7_ n8_
              clear hb ho99
              obtain ⟨Ao101, co101, eo101⟩ := Kd.R_slice HO262.out
              (first | subst eo101 | (injection eo101 with f1_ f2_ f3_; have f4_ := f1_.symm; have f5_ := f3_.symm; clear f1_ f2_ f3_; subst f4_; subst f5_))
              refine hK.out _ _ ⟨(blk_cell BK249.out 0).trans rfl, (blk_cell BK249.out 1).trans rfl, (blk_cell BK249.out 2).trans rfl, (blk_cell BK243.out 0).trans rfl, (blk_cell BK243.out 1).trans rfl, (blk_cell BK243.out 2).trans rfl, ((HB.out.cell (World.block_lt_of_cell? w _ hw266_0)).trans hw266_0)⟩ (fun hHeld => ?_)
              clear hK K
              refine norm_ (a' := ?_) ?_ ?_
              rotate_left
              · show Act.put _ (some 154) _ = _
                simp only [Act.put, List.setIfInBounds_toArray, List.set_cons_zero, List.set_cons_succ, i64_w, i32_w]
                rfl
              refine one_ (i := 4) (N := some 144) #[true, true, true, true, true, true, true, true, true, true, true, true, true, true, true, false, false, false, false, false] rfl rfl (one_of HT_.out (by kernel_rfl)) (by decide) (fun K hK => ?_)
              refine Kd.R_append_rows_step (Kd.int .i64) (w0 := w) w.heap.size (by rfl) (.tmp 141) (.tmp 143) 29 3 (.int .i64 0) 8 rfl Try.underlying29 info3 rfl (by decide) (by omega) (.slice Ao93 x250001_3.length co93) x250001_3 y260 _ _ _ (fun k_ => some k_ ≠ (.slice Ao94 x250002_3.length co94 : Value).ownBlock ∧ some k_ ≠ (.slice Ao101 y260.length co101 : Value).ownBlock ∧ some k_ ≠ (v268 : Value).ownBlock) (fun _ => False) rfl rfl ?aO ?aR (fun _ _ h => h) (fun _ h => h.elim) ?aF ?aB ?aS ?aL ?_
              (case aR => repeat (first | exact (Kd.R_reads' HO262.out).2.2 | (with_reducible refine Kd.C_alloc ?_ _) | (with_reducible refine Kd.C_drewN ?_ _) | (with_reducible refine Kd.C_drew ?_)))
              (case aB => exact (by repeat (first | (with_reducible first | exact HB.out | apply below_alloc | apply pw_below_drewN | apply below_drew1 | refine below_set ?_ GE243.out | refine below_set ?_ GE244.out | refine below_set ?_ GE249.out | refine below_set ?_ GE252.out) | exact HB.out)))
              (case aF => exact (fun k_ hk => ⟨Kd.fresh' (Kd.R_lt (by (with_reducible repeat first | apply Kd.R_alloc | apply Kd.R_drewN | apply Kd.R_drew); exact HO_250002.out)) k_ hk, Kd.fresh' (Kd.R_lt (by (with_reducible repeat first | apply Kd.R_alloc | apply Kd.R_drewN | apply Kd.R_drew); exact HO262.out)) k_ hk, Kd.fresh' (Kd.R_lt (by (with_reducible repeat first | apply Kd.R_alloc | apply Kd.R_drewN | apply Kd.R_drew); exact HO269.out)) k_ hk⟩))
              (case aO => exact (by (with_reducible repeat first | apply Kd.R_alloc | apply Kd.R_drewN | apply Kd.R_drew); exact Kd.R_mono HO_250001.out (fun _ hk => ⟨hk.1.1, ⟨hk.1.2, hk.2⟩⟩)))
              (case aS => exact (below_size (by repeat (first | (with_reducible first | exact HB.out | apply below_alloc | apply pw_below_drewN | apply below_drew1 | refine below_set ?_ GE243.out | refine below_set ?_ GE244.out | refine below_set ?_ GE249.out | refine below_set ?_ GE252.out) | exact HB.out))))
              (case aL => have := LMc90.out; omega)
              intro v264 w100 ho hb hg hat
              rw [← Ny263.out] at ho
              have n0_ := Aside0.mk (Kd.R_after (ok := (fun k_ => some k_ ≠ (.slice Ao101 y260.length co101 : Value).ownBlock ∧ some k_ ≠ (v268 : Value).ownBlock)) (by (with_reducible repeat first | apply Kd.R_alloc | apply Kd.R_drewN | apply Kd.R_drew); exact Kd.R_mono HO_250002.out (fun _ hk => ⟨⟨hk.1.2, hk.2⟩, hk.1.1⟩)) hg hat)
              have n1_ := Aside0.mk (blk_grown (g := gb243) (o := .cells #[.int .i64 a0_0, .slice A0_1 l0_1.length c0_1, .slice (some ad266) l0_2.length c0_2] 31 (0, 0)) (by (with_reducible repeat first | apply blk_drewN | apply blk_drew | apply blk_alloc); exact BK243.out) hg (Kd.R_ne HO_250001.out BK243.out (by decide)))
              have n2_ := Aside0.mk (blk_grown (g := gb244) (o := .cells #[.int .i64 x245000_3, .slice none 0 0, .slice none 0 0] 31 (0, 0)) (by (with_reducible repeat first | apply blk_drewN | apply blk_drew | apply blk_alloc); exact BK244.out) hg (Kd.R_ne HO_250001.out BK244.out (by decide)))
              have n3_ := Aside0.mk (blk_grown (g := gb249) (o := .cells #[.int .i64 x250000_78, .slice Ao93 x250001_3.length co93, .slice Ao94 x250002_3.length co94] 31 (0, 0)) (by (with_reducible repeat first | apply blk_drewN | apply blk_drew | apply blk_alloc); exact BK249.out) hg (Kd.R_ne HO_250001.out BK249.out (by decide)))
              have n4_ := Aside0.mk (blk_grown (g := gb252) (o := .cells #[.int .i64 ((rd_T58 l1 x8_3).f2.f0), .int .i64 ((rd_T58 l1 x8_3).f2.f1), .int .i64 ((rd_T58 l1 x8_3).f2.f2)] 23 (0, 0)) (by (with_reducible repeat first | apply blk_drewN | apply blk_drew | apply blk_alloc); exact BK252.out) hg (Kd.R_ne HO_250001.out BK252.out (by decide)))
              have n5_ := Aside0.mk (Kd.R_after (ok := (fun k_ => some k_ ≠ (.slice Ao94 x250002_3.length co94 : Value).ownBlock ∧ some k_ ≠ (v268 : Value).ownBlock)) (by (with_reducible repeat first | apply Kd.R_alloc | apply Kd.R_drewN | apply Kd.R_drew); exact Kd.R_mono HO262.out (fun _ hk => ⟨⟨hk.1.2, hk.2⟩, hk.1.1.2⟩)) hg hat)
              have n6_ := Aside0.mk (Kd.R_after (ok := (fun k_ => some k_ ≠ (.slice Ao94 x250002_3.length co94 : Value).ownBlock ∧ some k_ ≠ (.slice Ao101 y260.length co101 : Value).ownBlock)) (by (with_reducible repeat first | apply Kd.R_alloc | apply Kd.R_drewN | apply Kd.R_drew); exact Kd.R_mono HO269.out (fun _ hk => ⟨⟨hk.1.2, hk.2⟩, hk.1.1.2⟩)) hg hat)
              have n7_ := Aside0.mk (hb)
              have n8_ := Aside0.mk (ho)
              clear HO_250002
              clear BK243
              clear BK244
              clear BK249
              clear BK252
              clear HO262
              clear HO269
              clear HB
              clear HO_250001
              have HO_250002 := n0_
              have BK243 := n1_
              have BK244 := n2_
              have BK249 := n3_
              have BK252 := n4_
              have HO262 := n5_
              have HO269 := n6_
              have HB := n7_
              have HO265 := n8_
              clear n0_ n1_ n2_ n3_ n4_ n5_ n6_ n7_ n8_
              clear ho hb hg hat
              refine hK.out _ _ ⟨(blk_cell BK249.out 0).trans rfl, (blk_cell BK249.out 1).trans rfl, (blk_cell BK249.out 2).trans rfl, (blk_cell BK243.out 0).trans rfl, (blk_cell BK243.out 1).trans rfl, (blk_cell BK243.out 2).trans rfl, ((HB.out.cell (World.block_lt_of_cell? w _ hw266_0)).trans hw266_0)⟩ (fun hHeld => ?_)
              clear hK K
              refine norm_ (a' := ?_) ?_ ?_
              rotate_left
              · show Act.put _ (some 144) _ = _
                simp only [Act.put, List.setIfInBounds_toArray, List.set_cons_zero, List.set_cons_succ, i64_w, i32_w]
                rfl
              refine pure_ (i := 16) (N := some 156) (v := ?_) (a' := ?_) #[true, true, true, true, true, true, true, true, true, true, true, true, true, true, true, false, true, false, false, false] rfl rfl (any_of HT_.out (by kernel_rfl)) (fun _ _ _ h => h) (Or.inl ⟨by rfl, ?_⟩) ?_ ?_
              rotate_left
              · intro w'; go_simp; with_reducible rfl
              rotate_left
              · simp only [Act.put, List.setIfInBounds_toArray, List.set_cons_zero, List.set_cons_succ, i64_w, i32_w]; rfl
              exact norm_ (by simp only [putAll, Act.put, List.setIfInBounds_toArray, List.set_cons_zero, List.set_cons_succ]) (hCont (.slice Ao101 y260.length co101, v264, v268) _ ⟨hHeld, (by (with_reducible repeat first | apply Kd.R_alloc | apply Kd.R_drewN | apply Kd.R_drew); exact Kd.R_mono HO262.out (fun _ hk => ⟨hk.2, ⟨hk.1.2, hk.1.1⟩⟩)), (by (with_reducible repeat first | apply Kd.R_alloc | apply Kd.R_drewN | apply Kd.R_drew); exact Kd.R_mono HO265.out (fun _ hk => ⟨hk.2.1, ⟨hk.2.2, hk.1⟩⟩)), (by (with_reducible repeat first | apply Kd.R_alloc | apply Kd.R_drewN | apply Kd.R_drew); exact Kd.R_mono HO269.out (fun _ hk => ⟨hk.1.2, ⟨hk.2, hk.1.1⟩⟩)), (by (with_reducible repeat first | apply Kd.R_alloc | apply Kd.R_drewN | apply Kd.R_drew); exact Kd.R_mono HO_250002.out (fun _ hk => ⟨hk.1.1, ⟨hk.2, hk.1.2⟩⟩)), (by (with_reducible repeat first | apply blk_drewN | apply blk_drew | apply blk_alloc); exact BK243.out), (by (with_reducible repeat first | apply blk_drewN | apply blk_drew | apply blk_alloc); exact BK244.out), (by (with_reducible repeat first | apply blk_drewN | apply blk_drew | apply blk_alloc); exact BK249.out), (by (with_reducible repeat first | apply blk_drewN | apply blk_drew | apply blk_alloc); exact BK252.out), (by repeat (first | (with_reducible first | exact HB.out | apply below_alloc | apply pw_below_drewN | apply below_drew1 | refine below_set ?_ GE243.out | refine below_set ?_ GE244.out | refine below_set ?_ GE249.out | refine below_set ?_ GE252.out) | exact HB.out))⟩)
            skip
            refine Kd.R_lit_step (Kd.int .i64) _ 3 ?hg (N := 154) ?hd (xs := ([wrap64 (1 * (rd l0_2 x8_3))] : List Int)) (inner := [.int .i64 (wrap64 (1 * (rd l0_2 x8_3)))]) (ok := fun _ => True) (okp := fun _ => True) ?hr ?hp (fun _ hk => hk) trivial (Below.refl _ _) (Nat.le_refl _) (by simp) ?_; (case hd => rfl); (case hg => rfl); (case hr => first | (go_simp; done) | (go_simp; rfl)); (case hp => exact (Reps.one (show Kd.M (Kd.int .i64) _ _ _ (wrap64 (1 * (rd l0_2 x8_3))) [.int .i64 (wrap64 (1 * (rd l0_2 x8_3)))] from rfl) (Reps.none _ _)))
            intro v268 w96 ho97 hb hg_ hnew_
            clear hg_ hnew_
            (first | rw [← Ny267.out] at ho97 | (simp only [Int.reduceToNat] at ho97; rw [← Ny267.out] at ho97))
            have n0_ := Aside0.mk (Kd.R_elder' (by (with_reducible repeat first | apply Kd.R_alloc | apply Kd.R_drewN | apply Kd.R_drew); exact HO_250001.out) (Kd.R_base ho97) hb)
            have n1_ := Aside0.mk (Kd.R_elder' (by (with_reducible repeat first | apply Kd.R_alloc | apply Kd.R_drewN | apply Kd.R_drew); exact HO_250002.out) (Kd.R_base ho97) hb)
            have n2_ := Aside0.mk (Kd.R_lower (Kd.R_new' (Kd.R_new' ho97 (Kd.R_lt (by (with_reducible repeat first | apply Kd.R_alloc | apply Kd.R_drewN | apply Kd.R_drew); exact HO_250001.out))) (Kd.R_lt (by (with_reducible repeat first | apply Kd.R_alloc | apply Kd.R_drewN | apply Kd.R_drew); exact HO_250002.out))) (below_size (by repeat (first | (with_reducible first | exact HB.out | apply below_alloc | apply pw_below_drewN | apply below_drew1 | refine below_set ?_ GE243.out | refine below_set ?_ GE244.out | refine below_set ?_ GE249.out | refine below_set ?_ GE252.out) | exact HB.out))))
            have n3_ := Aside0.mk (blk_below (g := gb243) (o := .cells #[.int .i64 a0_0, .slice A0_1 l0_1.length c0_1, .slice (some ad266) l0_2.length c0_2] 31 (0, 0)) (by (with_reducible repeat first | apply blk_drewN | apply blk_drew | apply blk_alloc); exact BK243.out) hb)
            have n4_ := Aside0.mk (blk_below (g := gb244) (o := .cells #[.int .i64 x245000_3, .slice none 0 0, .slice none 0 0] 31 (0, 0)) (by (with_reducible repeat first | apply blk_drewN | apply blk_drew | apply blk_alloc); exact BK244.out) hb)
            have n5_ := Aside0.mk (blk_below (g := gb249) (o := .cells #[.int .i64 x250000_78, .slice Ao93 x250001_3.length co93, .slice Ao94 x250002_3.length co94] 31 (0, 0)) (by (with_reducible repeat first | apply blk_drewN | apply blk_drew | apply blk_alloc); exact BK249.out) hb)
            have n6_ := Aside0.mk (blk_below (g := gb252) (o := .cells #[.int .i64 ((rd_T58 l1 x8_3).f2.f0), .int .i64 ((rd_T58 l1 x8_3).f2.f1), .int .i64 ((rd_T58 l1 x8_3).f2.f2)] 23 (0, 0)) (by (with_reducible repeat first | apply blk_drewN | apply blk_drew | apply blk_alloc); exact BK252.out) hb)
            have n7_ := Aside0.mk (below_step (by repeat (first | (with_reducible first | exact HB.out | apply below_alloc | apply pw_below_drewN | apply below_drew1 | refine below_set ?_ GE243.out | refine below_set ?_ GE244.out | refine below_set ?_ GE249.out | refine below_set ?_ GE252.out) | exact HB.out)) hb)
            clear HO_250001
            clear HO_250002
            clear BK243
            clear BK244
            clear BK249
            clear BK252
            clear HB
            have HO_250001 := n0_
            have HO_250002 := n1_
            have HO269 := n2_
            have BK243 := n3_
            have BK244 := n4_
            have BK249 := n5_
            have BK252 := n6_
            have HB := n7_
            clear n0_ n1_ n2_ n3_ n4_ n5_ n6_ n7_
            clear hb ho97
            refine hK.out _ _ ⟨(blk_cell BK249.out 0).trans rfl, (blk_cell BK249.out 1).trans rfl, (blk_cell BK249.out 2).trans rfl, (blk_cell BK243.out 0).trans rfl, (blk_cell BK243.out 1).trans rfl, (blk_cell BK243.out 2).trans rfl, ((HB.out.cell (World.block_lt_of_cell? w _ hw266_0)).trans hw266_0)⟩ (fun hHeld => ?_)
            clear hK K
            refine norm_ (a' := ?_) ?_ ?_
            rotate_left
            · show Act.put _ (some 154) _ = _
              simp only [Act.put, List.setIfInBounds_toArray, List.set_cons_zero, List.set_cons_succ, i64_w, i32_w]
              rfl
            refine one_ (i := 3) (N := some 143) #[true, true, true, true, false, true, true, true, true, true, true, true, true, true, true, false, false, false, false, false] rfl rfl (one_of HT_.out (by kernel_rfl)) (by decide) (fun K hK => ?_)
            refine Kd.R_lit_step (Kd.int .i64) _ 3 ?hg (N := 143) ?hd (xs := ([x10_35] : List Int)) (inner := [.int .i64 x10_35]) (ok := fun _ => True) (okp := fun _ => True) ?hr ?hp (fun _ hk => hk) trivial (Below.refl _ _) (Nat.le_refl _) (by simp) ?_; (case hd => rfl); (case hg => rfl); (case hr => first | (go_simp; done) | (go_simp; rfl)); (case hp => exact (Reps.one (show Kd.M (Kd.int .i64) _ _ _ x10_35 [.int .i64 x10_35] from rfl) (Reps.none _ _)))
            intro v261 w98 ho99 hb hg_ hnew_
            clear hg_ hnew_
            (first | rw [← Ny260.out] at ho99 | (simp only [Int.reduceToNat] at ho99; rw [← Ny260.out] at ho99))
            have n0_ := Aside0.mk (Kd.R_elder' (by (with_reducible repeat first | apply Kd.R_alloc | apply Kd.R_drewN | apply Kd.R_drew); exact HO_250001.out) (Kd.R_base ho99) hb)
            have n1_ := Aside0.mk (Kd.R_elder' (by (with_reducible repeat first | apply Kd.R_alloc | apply Kd.R_drewN | apply Kd.R_drew); exact HO_250002.out) (Kd.R_base ho99) hb)
            have n2_ := Aside0.mk (Kd.R_elder' (by (with_reducible repeat first | apply Kd.R_alloc | apply Kd.R_drewN | apply Kd.R_drew); exact HO269.out) (Kd.R_base ho99) hb)
            have n3_ := Aside0.mk (Kd.R_lower (Kd.R_new' (Kd.R_new' (Kd.R_new' ho99 (Kd.R_lt (by (with_reducible repeat first | apply Kd.R_alloc | apply Kd.R_drewN | apply Kd.R_drew); exact HO_250001.out))) (Kd.R_lt (by (with_reducible repeat first | apply Kd.R_alloc | apply Kd.R_drewN | apply Kd.R_drew); exact HO_250002.out))) (Kd.R_lt (by (with_reducible repeat first | apply Kd.R_alloc | apply Kd.R_drewN | apply Kd.R_drew); exact HO269.out))) (below_size (by repeat (first | (with_reducible first | exact HB.out | apply below_alloc | apply pw_below_drewN | apply below_drew1 | refine below_set ?_ GE243.out | refine below_set ?_ GE244.out | refine below_set ?_ GE249.out | refine below_set ?_ GE252.out) | exact HB.out))))
            have n4_ := Aside0.mk (blk_below (g := gb243) (o := .cells #[.int .i64 a0_0, .slice A0_1 l0_1.length c0_1, .slice (some ad266) l0_2.length c0_2] 31 (0, 0)) (by (with_reducible repeat first | apply blk_drewN | apply blk_drew | apply blk_alloc); exact BK243.out) hb)
            have n5_ := Aside0.mk (blk_below (g := gb244) (o := .cells #[.int .i64 x245000_3, .slice none 0 0, .slice none 0 0] 31 (0, 0)) (by (with_reducible repeat first | apply blk_drewN | apply blk_drew | apply blk_alloc); exact BK244.out) hb)
            have n6_ := Aside0.mk (blk_below (g := gb249) (o := .cells #[.int .i64 x250000_78, .slice Ao93 x250001_3.length co93, .slice Ao94 x250002_3.length co94] 31 (0, 0)) (by (with_reducible repeat first | apply blk_drewN | apply blk_drew | apply blk_alloc); exact BK249.out) hb)
            have n7_ := Aside0.mk (blk_below (g := gb252) (o := .cells #[.int .i64 ((rd_T58 l1 x8_3).f2.f0), .int .i64 ((rd_T58 l1 x8_3).f2.f1), .int .i64 ((rd_T58 l1 x8_3).f2.f2)] 23 (0, 0)) (by (with_reducible repeat first | apply blk_drewN | apply blk_drew | apply blk_alloc); exact BK252.out) hb)
            have n8_ := Aside0.mk (below_step (by repeat (first | (with_reducible first | exact HB.out | apply below_alloc | apply pw_below_drewN | apply below_drew1 | refine below_set ?_ GE243.out | refine below_set ?_ GE244.out | refine below_set ?_ GE249.out | refine below_set ?_ GE252.out) | exact HB.out)) hb)
            clear HO_250001
            clear HO_250002
            clear HO269
            clear BK243
            clear BK244
            clear BK249
            clear BK252
            clear HB
            have HO_250001 := n0_
            have HO_250002 := n1_
            have HO269 := n2_
            have HO262 := n3_
            have BK243 := n4_
            have BK244 := n5_
            have BK249 := n6_
            have BK252 := n7_
            have HB := n8_
            clear n0_ n1_ n2_ n3_ n4_ n5_ n6_ n7_ n8_
            clear hb ho99
            obtain ⟨Ao101, co101, eo101⟩ := Kd.R_slice HO262.out
            (first | subst eo101 | (injection eo101 with f1_ f2_ f3_; have f4_ := f1_.symm; have f5_ := f3_.symm; clear f1_ f2_ f3_; subst f4_; subst f5_))
            refine hK.out _ _ ⟨(blk_cell BK249.out 0).trans rfl, (blk_cell BK249.out 1).trans rfl, (blk_cell BK249.out 2).trans rfl, (blk_cell BK243.out 0).trans rfl, (blk_cell BK243.out 1).trans rfl, (blk_cell BK243.out 2).trans rfl, ((HB.out.cell (World.block_lt_of_cell? w _ hw266_0)).trans hw266_0)⟩ (fun hHeld => ?_)
            clear hK K
            refine norm_ (a' := ?_) ?_ ?_
            rotate_left
            · show Act.put _ (some 143) _ = _
              simp only [Act.put, List.setIfInBounds_toArray, List.set_cons_zero, List.set_cons_succ, i64_w, i32_w]
              rfl
            refine one_ (i := 4) (N := some 144) #[true, true, true, true, true, true, true, true, true, true, true, true, true, true, true, false, false, false, false, false] rfl rfl (one_of HT_.out (by kernel_rfl)) (by decide) (fun K hK => ?_)
            refine Kd.R_append_rows_step (Kd.int .i64) (w0 := w) w.heap.size (by rfl) (.tmp 141) (.tmp 143) 29 3 (.int .i64 0) 8 rfl Try.underlying29 info3 rfl (by decide) (by omega) (.slice Ao93 x250001_3.length co93) x250001_3 y260 _ _ _ (fun k_ => some k_ ≠ (.slice Ao94 x250002_3.length co94 : Value).ownBlock ∧ some k_ ≠ (v268 : Value).ownBlock ∧ some k_ ≠ (.slice Ao101 y260.length co101 : Value).ownBlock) (fun _ => False) rfl rfl ?aO ?aR (fun _ _ h => h) (fun _ h => h.elim) ?aF ?aB ?aS ?aL ?_
            (case aR => repeat (first | exact (Kd.R_reads' HO262.out).2.2 | (with_reducible refine Kd.C_alloc ?_ _) | (with_reducible refine Kd.C_drewN ?_ _) | (with_reducible refine Kd.C_drew ?_)))
            (case aB => exact (by repeat (first | (with_reducible first | exact HB.out | apply below_alloc | apply pw_below_drewN | apply below_drew1 | refine below_set ?_ GE243.out | refine below_set ?_ GE244.out | refine below_set ?_ GE249.out | refine below_set ?_ GE252.out) | exact HB.out)))
            (case aF => exact (fun k_ hk => ⟨Kd.fresh' (Kd.R_lt (by (with_reducible repeat first | apply Kd.R_alloc | apply Kd.R_drewN | apply Kd.R_drew); exact HO_250002.out)) k_ hk, Kd.fresh' (Kd.R_lt (by (with_reducible repeat first | apply Kd.R_alloc | apply Kd.R_drewN | apply Kd.R_drew); exact HO269.out)) k_ hk, Kd.fresh' (Kd.R_lt (by (with_reducible repeat first | apply Kd.R_alloc | apply Kd.R_drewN | apply Kd.R_drew); exact HO262.out)) k_ hk⟩))
            (case aO => exact (by (with_reducible repeat first | apply Kd.R_alloc | apply Kd.R_drewN | apply Kd.R_drew); exact Kd.R_mono HO_250001.out (fun _ hk => ⟨hk.1.1, ⟨hk.1.2, hk.2⟩⟩)))
            (case aS => exact (below_size (by repeat (first | (with_reducible first | exact HB.out | apply below_alloc | apply pw_below_drewN | apply below_drew1 | refine below_set ?_ GE243.out | refine below_set ?_ GE244.out | refine below_set ?_ GE249.out | refine below_set ?_ GE252.out) | exact HB.out))))
            (case aL => have := LMc90.out; omega)
            intro v264 w100 ho hb hg hat
            rw [← Ny263.out] at ho
            have n0_ := Aside0.mk (Kd.R_after (ok := (fun k_ => some k_ ≠ (v268 : Value).ownBlock ∧ some k_ ≠ (.slice Ao101 y260.length co101 : Value).ownBlock)) (by (with_reducible repeat first | apply Kd.R_alloc | apply Kd.R_drewN | apply Kd.R_drew); exact Kd.R_mono HO_250002.out (fun _ hk => ⟨⟨hk.1.2, hk.2⟩, hk.1.1⟩)) hg hat)
            have n1_ := Aside0.mk (blk_grown (g := gb243) (o := .cells #[.int .i64 a0_0, .slice A0_1 l0_1.length c0_1, .slice (some ad266) l0_2.length c0_2] 31 (0, 0)) (by (with_reducible repeat first | apply blk_drewN | apply blk_drew | apply blk_alloc); exact BK243.out) hg (Kd.R_ne HO_250001.out BK243.out (by decide)))
            have n2_ := Aside0.mk (blk_grown (g := gb244) (o := .cells #[.int .i64 x245000_3, .slice none 0 0, .slice none 0 0] 31 (0, 0)) (by (with_reducible repeat first | apply blk_drewN | apply blk_drew | apply blk_alloc); exact BK244.out) hg (Kd.R_ne HO_250001.out BK244.out (by decide)))
            have n3_ := Aside0.mk (blk_grown (g := gb249) (o := .cells #[.int .i64 x250000_78, .slice Ao93 x250001_3.length co93, .slice Ao94 x250002_3.length co94] 31 (0, 0)) (by (with_reducible repeat first | apply blk_drewN | apply blk_drew | apply blk_alloc); exact BK249.out) hg (Kd.R_ne HO_250001.out BK249.out (by decide)))
            have n4_ := Aside0.mk (blk_grown (g := gb252) (o := .cells #[.int .i64 ((rd_T58 l1 x8_3).f2.f0), .int .i64 ((rd_T58 l1 x8_3).f2.f1), .int .i64 ((rd_T58 l1 x8_3).f2.f2)] 23 (0, 0)) (by (with_reducible repeat first | apply blk_drewN | apply blk_drew | apply blk_alloc); exact BK252.out) hg (Kd.R_ne HO_250001.out BK252.out (by decide)))
            have n5_ := Aside0.mk (Kd.R_after (ok := (fun k_ => some k_ ≠ (.slice Ao94 x250002_3.length co94 : Value).ownBlock ∧ some k_ ≠ (.slice Ao101 y260.length co101 : Value).ownBlock)) (by (with_reducible repeat first | apply Kd.R_alloc | apply Kd.R_drewN | apply Kd.R_drew); exact Kd.R_mono HO269.out (fun _ hk => ⟨⟨hk.1.2, hk.2⟩, hk.1.1.2⟩)) hg hat)
            have n6_ := Aside0.mk (Kd.R_after (ok := (fun k_ => some k_ ≠ (.slice Ao94 x250002_3.length co94 : Value).ownBlock ∧ some k_ ≠ (v268 : Value).ownBlock)) (by (with_reducible repeat first | apply Kd.R_alloc | apply Kd.R_drewN | apply Kd.R_drew); exact Kd.R_mono HO262.out (fun _ hk => ⟨⟨hk.1.2, hk.2⟩, hk.1.1.2⟩)) hg hat)
            have n7_ := Aside0.mk (hb)
            have n8_ := Aside0.mk (ho)
            clear HO_250002
            clear BK243
            clear BK244
            clear BK249
            clear BK252
            clear HO269
            clear HO262
            clear HB
            clear HO_250001
            have HO_250002 := n0_
            have BK243 := n1_
            have BK244 := n2_
            have BK249 := n3_
            have BK252 := n4_
            have HO269 := n5_
            have HO262 := n6_
            have HB := n7_
            have HO265 := n8_
            clear n0_ n1_ n2_ n3_ n4_ n5_ n6_ n7_ n8_
            clear ho hb hg hat
            refine hK.out _ _ ⟨(blk_cell BK249.out 0).trans rfl, (blk_cell BK249.out 1).trans rfl, (blk_cell BK249.out 2).trans rfl, (blk_cell BK243.out 0).trans rfl, (blk_cell BK243.out 1).trans rfl, (blk_cell BK243.out 2).trans rfl, ((HB.out.cell (World.block_lt_of_cell? w _ hw266_0)).trans hw266_0)⟩ (fun hHeld => ?_)
            clear hK K
            refine norm_ (a' := ?_) ?_ ?_
            rotate_left
            · show Act.put _ (some 144) _ = _
              simp only [Act.put, List.setIfInBounds_toArray, List.set_cons_zero, List.set_cons_succ, i64_w, i32_w]
              rfl
            refine pure_ (i := 16) (N := some 156) (v := ?_) (a' := ?_) #[true, true, true, true, true, true, true, true, true, true, true, true, true, true, true, false, true, false, false, false] rfl rfl (any_of HT_.out (by kernel_rfl)) (fun _ _ _ h => h) (Or.inl ⟨by rfl, ?_⟩) ?_ ?_
            rotate_left
            · intro w'; go_simp; with_reducible rfl
            rotate_left
            · simp only [Act.put, List.setIfInBounds_toArray, List.set_cons_zero, List.set_cons_succ, i64_w, i32_w]; rfl
            exact norm_ (by simp only [putAll, Act.put, List.setIfInBounds_toArray, List.set_cons_zero, List.set_cons_succ]) (hCont (.slice Ao101 y260.length co101, v264, v268) _ ⟨hHeld, (by (with_reducible repeat first | apply Kd.R_alloc | apply Kd.R_drewN | apply Kd.R_drew); exact Kd.R_mono HO262.out (fun _ hk => ⟨hk.2, ⟨hk.1.2, hk.1.1⟩⟩)), (by (with_reducible repeat first | apply Kd.R_alloc | apply Kd.R_drewN | apply Kd.R_drew); exact Kd.R_mono HO265.out (fun _ hk => ⟨hk.2.2, ⟨hk.2.1, hk.1⟩⟩)), (by (with_reducible repeat first | apply Kd.R_alloc | apply Kd.R_drewN | apply Kd.R_drew); exact Kd.R_mono HO269.out (fun _ hk => ⟨hk.1.2, ⟨hk.2, hk.1.1⟩⟩)), (by (with_reducible repeat first | apply Kd.R_alloc | apply Kd.R_drewN | apply Kd.R_drew); exact Kd.R_mono HO_250002.out (fun _ hk => ⟨hk.1.2, ⟨hk.2, hk.1.1⟩⟩)), (by (with_reducible repeat first | apply blk_drewN | apply blk_drew | apply blk_alloc); exact BK243.out), (by (with_reducible repeat first | apply blk_drewN | apply blk_drew | apply blk_alloc); exact BK244.out), (by (with_reducible repeat first | apply blk_drewN | apply blk_drew | apply blk_alloc); exact BK249.out), (by (with_reducible repeat first | apply blk_drewN | apply blk_drew | apply blk_alloc); exact BK252.out), (by repeat (first | (with_reducible first | exact HB.out | apply below_alloc | apply pw_below_drewN | apply below_drew1 | refine below_set ?_ GE243.out | refine below_set ?_ GE244.out | refine below_set ?_ GE249.out | refine below_set ?_ GE252.out) | exact HB.out))⟩)
          rintro ⟨v261, v264, v268⟩ w102 ⟨hS_, h0_, h1_, h2_, h3_, h4_, h5_, h6_, h7_, h8_⟩
          have n0_ : Aside0 (Kd.R (Kd.int .i64) 3 w102 w.heap.size (fun k_ => some k_ ≠ (v264 : Value).ownBlock ∧ some k_ ≠ (v268 : Value).ownBlock ∧ some k_ ≠ (.slice Ao94 x250002_3.length co94 : Value).ownBlock) v261 y260) := ⟨h0_⟩
          have n1_ : Aside0 (Kd.R (Kd.int .i64) 3 w102 w.heap.size (fun k_ => some k_ ≠ (v261 : Value).ownBlock ∧ some k_ ≠ (v268 : Value).ownBlock ∧ some k_ ≠ (.slice Ao94 x250002_3.length co94 : Value).ownBlock) v264 y263) := ⟨h1_⟩
          have n2_ : Aside0 (Kd.R (Kd.int .i64) 3 w102 w.heap.size (fun k_ => some k_ ≠ (v261 : Value).ownBlock ∧ some k_ ≠ (v264 : Value).ownBlock ∧ some k_ ≠ (.slice Ao94 x250002_3.length co94 : Value).ownBlock) v268 y267) := ⟨h2_⟩
          have n3_ : Aside0 (Kd.R (Kd.int .i64) 3 w102 w.heap.size (fun k_ => some k_ ≠ (v261 : Value).ownBlock ∧ some k_ ≠ (v264 : Value).ownBlock ∧ some k_ ≠ (v268 : Value).ownBlock) (.slice Ao94 x250002_3.length co94) x250002_3) := ⟨h3_⟩
          have n4_ : Aside0 (w102.heap[gb243]? = some (.cells #[.int .i64 a0_0, .slice A0_1 l0_1.length c0_1, .slice (some ad266) l0_2.length c0_2] 31 (0, 0))) := ⟨h4_⟩
          have n5_ : Aside0 (w102.heap[gb244]? = some (.cells #[.int .i64 x245000_3, .slice none 0 0, .slice none 0 0] 31 (0, 0))) := ⟨h5_⟩
          have n6_ : Aside0 (w102.heap[gb249]? = some (.cells #[.int .i64 x250000_78, .slice Ao93 x250001_3.length co93, .slice Ao94 x250002_3.length co94] 31 (0, 0))) := ⟨h6_⟩
          have n7_ : Aside0 (w102.heap[gb252]? = some (.cells #[.int .i64 ((rd_T58 l1 x8_3).f2.f0), .int .i64 ((rd_T58 l1 x8_3).f2.f1), .int .i64 ((rd_T58 l1 x8_3).f2.f2)] 23 (0, 0))) := ⟨h7_⟩
          have n8_ : Aside0 (Below w.heap.size w w102) := ⟨h8_⟩
          clear HO_250001
          clear HO_250002
          clear BK243
          clear BK244
          clear BK249
          clear BK252
          clear HB
          clear h0_ h1_ h2_ h3_ h4_ h5_ h6_ h7_ h8_
          have HO262 := n0_
          have HO265 := n1_
          have HO269 := n2_
          have HO_250002 := n3_
          have BK243 := n4_
          have BK244 := n5_
          have BK249 := n6_
          have BK252 := n7_
          have HB := n8_
          clear n0_ n1_ n2_ n3_ n4_ n5_ n6_ n7_ n8_
          have hHeld : w102.cell? ⟨gb249, 0, none⟩ = some (.int .i64 x250000_78) ∧ w102.cell? ⟨gb249, 1, none⟩ = some (.slice Ao93 x250001_3.length co93) ∧ w102.cell? ⟨gb249, 2, none⟩ = some (.slice Ao94 x250002_3.length co94) ∧ w102.cell? ⟨gb243, 0, none⟩ = some (.int .i64 a0_0) ∧ w102.cell? ⟨gb243, 1, none⟩ = some (.slice A0_1 l0_1.length c0_1) ∧ w102.cell? ⟨gb243, 2, none⟩ = some (.slice (some ad266) l0_2.length c0_2) ∧ w102.cell? (ad266.add (x8_3).toNat) = some (.int .i64 (rd l0_2 x8_3)) := hS_
          obtain ⟨Ao104, co104, eo104⟩ := Kd.R_slice HO269.out
          (first | subst eo104 | (injection eo104 with f1_ f2_ f3_; have f4_ := f1_.symm; have f5_ := f3_.symm; clear f1_ f2_ f3_; subst f4_; subst f5_))
          refine norm_ (a' := ?_) ?_ ?_
          rotate_left
          · simp only [putAll, Act.put, List.setIfInBounds_toArray, List.set_cons_zero, List.set_cons_succ]
            rfl
          refine one_ (i := 15) (N := some 155) #[true, true, true, true, true, true, true, true, true, true, true, true, true, true, true, true, true, false, false, false] rfl rfl (one_of HT_.out (by kernel_rfl)) (by decide) (fun K hK => ?_)
          refine Kd.R_append_rows_step (Kd.int .i64) (w0 := w) w.heap.size (by rfl) (.tmp 146) (.tmp 154) 29 3 (.int .i64 0) 8 rfl Try.underlying29 info3 rfl (by decide) (by omega) (.slice Ao94 x250002_3.length co94) x250002_3 y267 _ _ _ (fun k_ => some k_ ≠ (v261 : Value).ownBlock ∧ some k_ ≠ (v264 : Value).ownBlock ∧ some k_ ≠ (.slice Ao104 y267.length co104 : Value).ownBlock) (fun _ => False) rfl rfl ?aO ?aR (fun _ _ h => h) (fun _ h => h.elim) ?aF ?aB ?aS ?aL ?_
          (case aR => repeat (first | exact (Kd.R_reads' HO269.out).2.2 | (with_reducible refine Kd.C_alloc ?_ _) | (with_reducible refine Kd.C_drewN ?_ _) | (with_reducible refine Kd.C_drew ?_)))
          (case aB => exact (by repeat (first | (with_reducible first | exact HB.out | apply below_alloc | apply pw_below_drewN | apply below_drew1 | refine below_set ?_ GE243.out | refine below_set ?_ GE244.out | refine below_set ?_ GE249.out | refine below_set ?_ GE252.out) | exact HB.out)))
          (case aF => exact (fun k_ hk => ⟨Kd.fresh' (Kd.R_lt (by (with_reducible repeat first | apply Kd.R_alloc | apply Kd.R_drewN | apply Kd.R_drew); exact HO262.out)) k_ hk, Kd.fresh' (Kd.R_lt (by (with_reducible repeat first | apply Kd.R_alloc | apply Kd.R_drewN | apply Kd.R_drew); exact HO265.out)) k_ hk, Kd.fresh' (Kd.R_lt (by (with_reducible repeat first | apply Kd.R_alloc | apply Kd.R_drewN | apply Kd.R_drew); exact HO269.out)) k_ hk⟩))
          (case aO => exact (by (with_reducible repeat first | apply Kd.R_alloc | apply Kd.R_drewN | apply Kd.R_drew); exact HO_250002.out))
          (case aS => exact (below_size (by repeat (first | (with_reducible first | exact HB.out | apply below_alloc | apply pw_below_drewN | apply below_drew1 | refine below_set ?_ GE243.out | refine below_set ?_ GE244.out | refine below_set ?_ GE249.out | refine below_set ?_ GE252.out) | exact HB.out))))
          (case aL => have := LMc92.out; omega)
          intro v271 w103 ho hb hg hat
          rw [← Ny270.out] at ho
          have n0_ := Aside0.mk (blk_grown (g := gb243) (o := .cells #[.int .i64 a0_0, .slice A0_1 l0_1.length c0_1, .slice (some ad266) l0_2.length c0_2] 31 (0, 0)) (by (with_reducible repeat first | apply blk_drewN | apply blk_drew | apply blk_alloc); exact BK243.out) hg (Kd.R_ne HO_250002.out BK243.out (by decide)))
          have n1_ := Aside0.mk (blk_grown (g := gb244) (o := .cells #[.int .i64 x245000_3, .slice none 0 0, .slice none 0 0] 31 (0, 0)) (by (with_reducible repeat first | apply blk_drewN | apply blk_drew | apply blk_alloc); exact BK244.out) hg (Kd.R_ne HO_250002.out BK244.out (by decide)))
          have n2_ := Aside0.mk (blk_grown (g := gb249) (o := .cells #[.int .i64 x250000_78, .slice Ao93 x250001_3.length co93, .slice Ao94 x250002_3.length co94] 31 (0, 0)) (by (with_reducible repeat first | apply blk_drewN | apply blk_drew | apply blk_alloc); exact BK249.out) hg (Kd.R_ne HO_250002.out BK249.out (by decide)))
          have n3_ := Aside0.mk (blk_grown (g := gb252) (o := .cells #[.int .i64 ((rd_T58 l1 x8_3).f2.f0), .int .i64 ((rd_T58 l1 x8_3).f2.f1), .int .i64 ((rd_T58 l1 x8_3).f2.f2)] 23 (0, 0)) (by (with_reducible repeat first | apply blk_drewN | apply blk_drew | apply blk_alloc); exact BK252.out) hg (Kd.R_ne HO_250002.out BK252.out (by decide)))
          have n4_ := Aside0.mk (Kd.R_after (ok := (fun k_ => some k_ ≠ (v264 : Value).ownBlock ∧ some k_ ≠ (.slice Ao104 y267.length co104 : Value).ownBlock)) (by (with_reducible repeat first | apply Kd.R_alloc | apply Kd.R_drewN | apply Kd.R_drew); exact Kd.R_mono HO262.out (fun _ hk => ⟨⟨hk.1, hk.2.1⟩, hk.2.2⟩)) hg hat)
          have n5_ := Aside0.mk (Kd.R_after (ok := (fun k_ => some k_ ≠ (v261 : Value).ownBlock ∧ some k_ ≠ (.slice Ao104 y267.length co104 : Value).ownBlock)) (by (with_reducible repeat first | apply Kd.R_alloc | apply Kd.R_drewN | apply Kd.R_drew); exact Kd.R_mono HO265.out (fun _ hk => ⟨⟨hk.1, hk.2.1⟩, hk.2.2⟩)) hg hat)
          have n6_ := Aside0.mk (Kd.R_after (ok := (fun k_ => some k_ ≠ (v261 : Value).ownBlock ∧ some k_ ≠ (v264 : Value).ownBlock)) (by (with_reducible repeat first | apply Kd.R_alloc | apply Kd.R_drewN | apply Kd.R_drew); exact Kd.R_mono HO269.out (fun _ hk => ⟨⟨hk.1, hk.2.1⟩, hk.2.2⟩)) hg hat)
          have n7_ := Aside0.mk (hb)
          have n8_ := Aside0.mk (ho)
          clear BK243
          clear BK244
          clear BK249
          clear BK252
          clear HO262
          clear HO265
          clear HO269
          clear HB
          clear HO_250002
          have BK243 := n0_
          have BK244 := n1_
          have BK249 := n2_
          have BK252 := n3_
          have HO262 := n4_
          have HO265 := n5_
          have HO269 := n6_
          have HB := n7_
          have HO272 := n8_
          clear n0_ n1_ n2_ n3_ n4_ n5_ n6_ n7_ n8_
          clear ho hb hg hat
          obtain ⟨Ao105, co105, eo105⟩ := Kd.R_slice HO265.out
          (first | subst eo105 | (injection eo105 with f1_ f2_ f3_; have f4_ := f1_.symm; have f5_ := f3_.symm; clear f1_ f2_ f3_; subst f4_; subst f5_))
          obtain ⟨Ao107, co107, eo107⟩ := Kd.R_slice HO272.out
          (first | subst eo107 | (injection eo107 with f1_ f2_ f3_; have f4_ := f1_.symm; have f5_ := f3_.symm; clear f1_ f2_ f3_; subst f4_; subst f5_))
          refine hK.out _ _ ⟨(blk_cell BK249.out 0).trans rfl, (blk_cell BK249.out 1).trans rfl, (blk_cell BK249.out 2).trans rfl, (blk_cell BK243.out 0).trans rfl, (blk_cell BK243.out 1).trans rfl, (blk_cell BK243.out 2).trans rfl, ((HB.out.cell (World.block_lt_of_cell? w _ hw266_0)).trans hw266_0)⟩ (fun hHeld => ?_)
          clear hK K
          refine norm_ (a' := ?_) ?_ ?_
          rotate_left
          · show Act.put _ (some 155) _ = _
            simp only [Act.put, List.setIfInBounds_toArray, List.set_cons_zero, List.set_cons_succ, i64_w, i32_w]
            rfl
          refine last_ (i := 17) (N := none) #[true, true, true, true, true, true, true, true, true, true, true, true, true, true, true, true, true, true, false, false] rfl rfl (one_of HT_.out (by kernel_rfl)) (by decide) (fun K hK => ?_)
          have hs106 : w103.cell? ⟨gb249, 1, none⟩ = some (.slice Ao93 x250001_3.length co93) := (blk_cell BK249.out 1).trans rfl
          have hfs106 := blk_frozen BK249.out 1
          have hns106_0 := NB243_249.out
          have hns106_1 := NB244_249.out
          have hns106_3 := NB252_249.out
          have hms106_0 := NB249_243.out
          have hms106_1 := NB249_244.out
          have hms106_3 := NB249_252.out
          refine skip_ (w1 := ?_) (by rfl) rfl ?_ ?_
          rotate_left
          · go_simp
            rfl
          refine hK.out _ _ ?_
          clear hK K
          refine pure_ (i := 18) (N := some 157) (v := ?_) (a' := ?_) #[true, true, true, true, true, true, true, true, true, true, true, true, true, true, true, true, true, true, true, false] rfl rfl (any_of HT_.out (by kernel_rfl)) (fun _ _ _ h => h) (Or.inl ⟨by rfl, ?_⟩) ?_ ?_
          rotate_left
          · intro w'; go_simp; with_reducible rfl
          rotate_left
          · simp only [Act.put, List.setIfInBounds_toArray, List.set_cons_zero, List.set_cons_succ, i64_w, i32_w]; rfl
          refine last_ (i := 19) (N := none) #[true, true, true, true, true, true, true, true, true, true, true, true, true, true, true, true, true, true, true, true] rfl rfl (one_of HT_.out (by kernel_rfl)) (by decide) (fun K hK => ?_)
          have hs108 : w103.cell? ⟨gb249, 2, none⟩ = some (.slice Ao94 x250002_3.length co94) := (blk_cell BK249.out 2).trans rfl
          have hfs108 := blk_frozen BK249.out 2
          have hns108_0 := NB243_249.out
          have hns108_1 := NB244_249.out
          have hns108_3 := NB252_249.out
          have hms108_0 := NB249_243.out
          have hms108_1 := NB249_244.out
          have hms108_3 := NB249_252.out
          refine skip_ (w1 := ?_) (by rfl) rfl ?_ ?_
          rotate_left
          · go_simp
            rfl
          refine hK.out _ _ ?_
          clear hK K
          refine done_ (done_of HT_.out (by kernel_rfl)) ?_
          try go_wp2
          go_roundg kj78
          case measure => have := HJ2.out; have := HK2.out; have := HK3.out; have := HJ35.out; have := HJ47.out; have := HJ71.out; have := HJ78.out; omega
          case rel => exact ⟨(wrap64 (x8_3 + 1)), (x245000_3), (x250000_78), (y263), (y270), (.slice Ao105 y263.length co105), (.slice Ao107 y270.length co107), (by first | rfl | (simp; done) | (simp [*]; done)), H', ⟨by have := HJ2.out; have := HK2.out; have := HK3.out; have := HJ35.out; have := HJ47.out; have := HJ71.out; have := HJ78.out; omega⟩, ⟨by (with_reducible repeat first | apply Kd.R_alloc | apply Kd.R_drewN | apply Kd.R_drew); exact Kd.R_mono (Kd.R_far (p := ⟨gb249, 2, none⟩) (Kd.R_far (p := ⟨gb249, 1, none⟩) (Kd.R_types HO265.out BK249.out (by decide)) (fun _ hk => hk.2) (.slice Ao105 y263.length co105)) (fun _ hk => hk.2) (.slice Ao107 y270.length co107)) (fun _ hk => hk.1.2)⟩, ⟨by (with_reducible repeat first | apply Kd.R_alloc | apply Kd.R_drewN | apply Kd.R_drew); exact Kd.R_mono (Kd.R_far (p := ⟨gb249, 2, none⟩) (Kd.R_far (p := ⟨gb249, 1, none⟩) (Kd.R_types HO272.out BK249.out (by decide)) (fun _ hk => hk.2) (.slice Ao105 y263.length co105)) (fun _ hk => hk.2) (.slice Ao107 y270.length co107)) (fun _ hk => hk.1.2.1)⟩, ⟨by (with_reducible repeat first | apply blk_drewN | apply blk_drew | apply blk_alloc); refine blk_far ?_ NB243_249.out _; (with_reducible repeat first | apply blk_drewN | apply blk_drew | apply blk_alloc); refine blk_far ?_ NB243_249.out _; (with_reducible repeat first | apply blk_drewN | apply blk_drew | apply blk_alloc); exact BK243.out⟩, ⟨by (with_reducible repeat first | apply blk_drewN | apply blk_drew | apply blk_alloc); refine blk_far ?_ NB244_249.out _; (with_reducible repeat first | apply blk_drewN | apply blk_drew | apply blk_alloc); refine blk_far ?_ NB244_249.out _; (with_reducible repeat first | apply blk_drewN | apply blk_drew | apply blk_alloc); exact BK244.out⟩, ⟨by (with_reducible repeat first | apply blk_drewN | apply blk_drew | apply blk_alloc); refine blk_put (cs := #[.int .i64 x250000_78, .slice Ao105 y263.length co105, .slice Ao94 x250002_3.length co94]) ?_ 2 _ rfl; (with_reducible repeat first | apply blk_drewN | apply blk_drew | apply blk_alloc); refine blk_put (cs := #[.int .i64 x250000_78, .slice Ao93 x250001_3.length co93, .slice Ao94 x250002_3.length co94]) ?_ 1 _ rfl; (with_reducible repeat first | apply blk_drewN | apply blk_drew | apply blk_alloc); exact BK249.out⟩, ⟨by repeat (first | (with_reducible first | exact HB.out | apply below_alloc | apply pw_below_drewN | apply below_drew1 | refine below_set ?_ GE243.out | refine below_set ?_ GE244.out | refine below_set ?_ GE249.out | refine below_set ?_ GE252.out) | exact HB.out)⟩⟩
         rw [if_neg c89] at H
         have c89b0 : decide (x10_35 < 2) = false := decide_eq_false c89
         clear c89
         obtain ⟨y273, hy273⟩ : ∃ y_ : List Int, y_ = (([x10_35] : List Int)) := ⟨_, rfl⟩
         replace H : (if x250001_3.length + y273.length < 17592186044416 then (if x8_3 < (l0_2.length : Int) then ((some (([wrap64 (x11_35 * (rd l0_2 x8_3))] : List Int) : List Int)).bind fun y280 => (if x250002_3.length + y280.length < 17592186044416 then (quadratref06_Cut.l1 kj78 l1 (wrap64 (x8_3 + 1)) a0_0 l0_1 l0_2 x250000_78 (x250001_3 ++ y273) (x250002_3 ++ y280)) else (none))) else (none)) else (none)) = some (r1, r2, r3, r4) := by first | (rw [hy273]; with_reducible exact H) | (have H2_ := (Option.bind_some _ _).symm.trans H; rw [hy273]; with_reducible exact H2_) | (have H2_ := (Option.bind_some _ _).symm.trans H; with_reducible exact H2_) | with_reducible exact H | (rw [hy273]; exact H) | exact H
         have Ny273 := Aside0.mk hy273
         clear hy273
         by_cases c109 : x250001_3.length + y273.length < 17592186044416
         case neg =>
          rw [if_neg c109] at H
          exact absurd H (by simp)
         rw [if_pos c109] at H
         have LMc109 := Aside0.mk c109
         clear c109
         obtain ⟨y276, hy276⟩ : ∃ y_ : List Int, y_ = (x250001_3 ++ y273) := ⟨_, rfl⟩
         replace H : (if x8_3 < (l0_2.length : Int) then ((some (([wrap64 (x11_35 * (rd l0_2 x8_3))] : List Int) : List Int)).bind fun y280 => (if x250002_3.length + y280.length < 17592186044416 then (quadratref06_Cut.l1 kj78 l1 (wrap64 (x8_3 + 1)) a0_0 l0_1 l0_2 x250000_78 y276 (x250002_3 ++ y280)) else (none))) else (none)) = some (r1, r2, r3, r4) := by first | (rw [hy276]; with_reducible exact H) | (have H2_ := (Option.bind_some _ _).symm.trans H; rw [hy276]; with_reducible exact H2_) | (have H2_ := (Option.bind_some _ _).symm.trans H; with_reducible exact H2_) | with_reducible exact H | (rw [hy276]; exact H) | exact H
         have Ny276 := Aside0.mk hy276
         clear hy276
         by_cases c110 : x8_3 < (l0_2.length : Int)
         case neg =>
          rw [if_neg c110] at H
          exact absurd H (by simp)
         rw [if_pos c110] at H
         have c110b0 : decide (x8_3 < (l0_2.length : Int)) = true := decide_eq_true c110
         clear c110
         obtain ⟨y280, hy280⟩ : ∃ y_ : List Int, y_ = (([wrap64 (x11_35 * (rd l0_2 x8_3))] : List Int)) := ⟨_, rfl⟩
         replace H : (if x250002_3.length + y280.length < 17592186044416 then (quadratref06_Cut.l1 kj78 l1 (wrap64 (x8_3 + 1)) a0_0 l0_1 l0_2 x250000_78 y276 (x250002_3 ++ y280)) else (none)) = some (r1, r2, r3, r4) := by first | (rw [hy280]; with_reducible exact H) | (have H2_ := (Option.bind_some _ _).symm.trans H; rw [hy280]; with_reducible exact H2_) | (have H2_ := (Option.bind_some _ _).symm.trans H; with_reducible exact H2_) | with_reducible exact H | (rw [hy280]; exact H) | exact H
         have Ny280 := Aside0.mk hy280
         clear hy280
         by_cases c111 : x250002_3.length + y280.length < 17592186044416
         case neg =>
          rw [if_neg c111] at H
          exact absurd H (by simp)
         rw [if_pos c111] at H
         have LMc111 := Aside0.mk c111
         clear c111
         obtain ⟨y283, hy283⟩ : ∃ y_ : List Int, y_ = (x250002_3 ++ y280) := ⟨_, rfl⟩
         replace H : (quadratref06_Cut.l1 kj78 l1 (wrap64 (x8_3 + 1)) a0_0 l0_1 l0_2 x250000_78 y276 y283) = some (r1, r2, r3, r4) := by first | (rw [hy283]; with_reducible exact H) | (have H2_ := (Option.bind_some _ _).symm.trans H; rw [hy283]; with_reducible exact H2_) | (have H2_ := (Option.bind_some _ _).symm.trans H; with_reducible exact H2_) | with_reducible exact H | (rw [hy283]; exact H) | exact H
         have Ny283 := Aside0.mk hy283
         clear hy283
         have H' := Aside0.mk H
         clear H
         have p259 : 0 ≤ (x8_3 : Int) := of_decide_eq_true (by first | (with_reducible assumption) | assumption)
         have q259 : x8_3 < (l1.length : Int) := of_decide_eq_true (by first | (with_reducible assumption) | assumption)
         obtain ⟨ad259, e259, hx259_0, hx259_1, hx259_2, hx259_3, hx259_4⟩ := at_T58 HR1.out x8_3 p259 q259
         (try rw [← Nbq87.out] at hx259_0)
         obtain rfl : ad250 = ad259 := (by injection e259)
         replace hx259_0 := (HB.out.cell (World.block_lt_of_cell? w _ hx259_0)).trans hx259_0
         replace hx259_1 := (HB.out.cell (World.block_lt_of_cell? w _ hx259_1)).trans hx259_1
         replace hx259_2 := (HB.out.cell (World.block_lt_of_cell? w _ hx259_2)).trans hx259_2
         replace hx259_3 := (HB.out.cell (World.block_lt_of_cell? w _ hx259_3)).trans hx259_3
         replace hx259_4 := (HB.out.cell (World.block_lt_of_cell? w _ hx259_4)).trans hx259_4
         replace p259 := eq_true p259
         replace q259 := eq_true q259
         obtain ⟨Ao112, co112, eo112⟩ := Kd.R_slice HO_250001.out
         subst eo112
         obtain ⟨Ao113, co113, eo113⟩ := Kd.R_slice HO_250002.out
         subst eo113
         try go_wp2
         have n0_ := Aside0.mk (Kd.R_drew HO_250001.out)
         have n1_ := Aside0.mk (Kd.R_drew HO_250002.out)
         have n2_ := Aside0.mk (blk_drew BK243.out)
         have n3_ := Aside0.mk (blk_drew BK244.out)
         have n4_ := Aside0.mk (blk_drew BK249.out)
         have n5_ := Aside0.mk (blk_drew BK252.out)
         have n6_ := Aside0.mk (below_drew1 HB.out)
         clear HO_250001
         clear HO_250002
         clear BK243
         clear BK244
         clear BK249
         clear BK252
         clear HB
         have HO_250001 := n0_
         have HO_250002 := n1_
         have BK243 := n2_
         have BK244 := n3_
         have BK249 := n4_
         have BK252 := n5_
         have HB := n6_
         clear n0_ n1_ n2_ n3_ n4_ n5_ n6_
         have p279 : 0 ≤ (x8_3 : Int) := of_decide_eq_true (by first | (with_reducible assumption) | assumption)
         have q279 : x8_3 < (l0_2.length : Int) := of_decide_eq_true (by first | (with_reducible assumption) | assumption)
         obtain ⟨ad279, e279, hx279_0⟩ := Kd.at_int HR0_2.out x8_3 p279 q279
         have hw279_0 := hx279_0
         cases e279
         replace hx279_0 := (HB.out.cell (World.block_lt_of_cell? w _ hx279_0)).trans hx279_0
         replace p279 := eq_true p279
         replace q279 := eq_true q279
         refine start_ (n := 20) (S := fun w' => w'.cell? ⟨gb249, 0, none⟩ = some (.int .i64 x250000_78) ∧ w'.cell? ⟨gb249, 1, none⟩ = some (.slice Ao112 x250001_3.length co112) ∧ w'.cell? ⟨gb249, 2, none⟩ = some (.slice Ao113 x250002_3.length co113) ∧ w'.cell? ⟨gb243, 0, none⟩ = some (.int .i64 a0_0) ∧ w'.cell? ⟨gb243, 1, none⟩ = some (.slice A0_1 l0_1.length c0_1) ∧ w'.cell? ⟨gb243, 2, none⟩ = some (.slice (some ad279) l0_2.length c0_2) ∧ w'.cell? (ad279.add (x8_3).toNat) = some (.int .i64 (rd l0_2 x8_3))) (ds := [17, 19]) #[false, false, false, false, false, false, false, false, false, false, false, false, false, false, false, false, false, false, false, false] (by kernel_rfl) rfl rfl ⟨(blk_cell BK249.out 0).trans rfl, (blk_cell BK249.out 1).trans rfl, (blk_cell BK249.out 2).trans rfl, (blk_cell BK243.out 0).trans rfl, (blk_cell BK243.out 1).trans rfl, (blk_cell BK243.out 2).trans rfl, ((HB.out.cell (World.block_lt_of_cell? w _ hw279_0)).trans hw279_0)⟩ (fun hHeld => ?_); refine with_tabW quadratref06_Cut.tab24 quadratref06_Cut.bits24 (fun HT_ HW_ => ?_)
         generalize wc.drew = w114 at HO_250001 HO_250002 BK243 BK244 BK249 BK252 HB hx279_0 hHeld ⊢
         refine pure_ (i := 0) (N := some 140) (v := ?_) (a' := ?_) #[true, false, false, false, false, false, false, false, false, false, false, false, false, false, false, false, false, false, false, false] rfl rfl (any_of HT_.out (by kernel_rfl)) (fun _ _ _ h => h) (Or.inl ⟨by rfl, ?_⟩) ?_ ?_
         rotate_left
         · intro w'; go_simp; with_reducible rfl
         rotate_left
         · simp only [Act.put, List.setIfInBounds_toArray, List.set_cons_zero, List.set_cons_succ, i64_w, i32_w]; rfl
         refine pure_ (i := 2) (N := some 142) (v := ?_) (a' := ?_) #[true, false, true, false, false, false, false, false, false, false, false, false, false, false, false, false, false, false, false, false] rfl rfl (any_of HT_.out (by kernel_rfl)) (fun _ _ _ h => h) (Or.inl ⟨by rfl, ?_⟩) ?_ ?_
         rotate_left
         · intro w'; go_simp; with_reducible rfl
         rotate_left
         · simp only [Act.put, List.setIfInBounds_toArray, List.set_cons_zero, List.set_cons_succ, i64_w, i32_w]; rfl
         refine pure_ (i := 5) (N := some 145) (v := ?_) (a' := ?_) #[true, false, true, false, false, true, false, false, false, false, false, false, false, false, false, false, false, false, false, false] rfl rfl (any_of HT_.out (by kernel_rfl)) (fun _ _ _ h => h) (Or.inl ⟨by rfl, ?_⟩) ?_ ?_
         rotate_left
         · intro w'; go_simp; with_reducible rfl
         rotate_left
         · simp only [Act.put, List.setIfInBounds_toArray, List.set_cons_zero, List.set_cons_succ, i64_w, i32_w]; rfl
         refine pure_ (i := 7) (N := some 147) (v := ?_) (a' := ?_) #[true, false, true, false, false, true, false, true, false, false, false, false, false, false, false, false, false, false, false, false] rfl rfl (any_of HT_.out (by kernel_rfl)) (fun _ _ _ h => h) (Or.inl ⟨by rfl, ?_⟩) ?_ ?_
         rotate_left
         · intro w'; go_simp; with_reducible rfl
         rotate_left
         · simp only [Act.put, List.setIfInBounds_toArray, List.set_cons_zero, List.set_cons_succ, i64_w, i32_w]; rfl
         refine pure_ (i := 8) (N := some 148) (v := ?_) (a' := ?_) #[true, false, true, false, false, true, false, true, true, false, false, false, false, false, false, false, false, false, false, false] rfl rfl (any_of HT_.out (by kernel_rfl)) (fun _ _ _ h => h) (Or.inl ⟨by rfl, ?_⟩) ?_ ?_
         rotate_left
         · intro w'; go_simp; with_reducible rfl
         rotate_left
         · simp only [Act.put, List.setIfInBounds_toArray, List.set_cons_zero, List.set_cons_succ, i64_w, i32_w]; rfl
         refine pure_ (i := 10) (N := some 150) (v := ?_) (a' := ?_) #[true, false, true, false, false, true, false, true, true, false, true, false, false, false, false, false, false, false, false, false] rfl rfl (any_of HT_.out (by kernel_rfl)) (fun _ _ _ h => h) (Or.inl ⟨by rfl, ?_⟩) ?_ ?_
         rotate_left
         · intro w'; go_simp; with_reducible rfl
         rotate_left
         · simp only [Act.put, List.setIfInBounds_toArray, List.set_cons_zero, List.set_cons_succ, i64_w, i32_w]; rfl
         refine take_ (i := 1) (N := some 141) (v := ?_) (a' := ?_) #[true, true, true, false, false, true, false, true, true, false, true, false, false, false, false, false, false, false, false, false] rfl rfl (take_ofW HT_.out HW_.out (by kernel_rfl)) (fun _ _ _ h => h) (Or.inl ⟨by rfl, ?_⟩) hHeld ?_ ?_
         rotate_left
         · rintro w' ⟨s0, s1, s2, s3, s4, s5, s6⟩
           go_simp
           with_reducible rfl
         rotate_left
         · simp only [Act.put, List.setIfInBounds_toArray, List.set_cons_zero, List.set_cons_succ, i64_w, i32_w]; rfl
         refine take_ (i := 6) (N := some 146) (v := ?_) (a' := ?_) #[true, true, true, false, false, true, true, true, true, false, true, false, false, false, false, false, false, false, false, false] rfl rfl (take_ofW HT_.out HW_.out (by kernel_rfl)) (fun _ _ _ h => h) (Or.inl ⟨by rfl, ?_⟩) hHeld ?_ ?_
         rotate_left
         · rintro w' ⟨s0, s1, s2, s3, s4, s5, s6⟩
           go_simp
           with_reducible rfl
         rotate_left
         · simp only [Act.put, List.setIfInBounds_toArray, List.set_cons_zero, List.set_cons_succ, i64_w, i32_w]; rfl
         refine take_ (i := 9) (N := some 149) (v := ?_) (a' := ?_) #[true, true, true, false, false, true, true, true, true, true, true, false, false, false, false, false, false, false, false, false] rfl rfl (take_ofW HT_.out HW_.out (by kernel_rfl)) (fun _ _ _ h => h) (Or.inl ⟨by rfl, ?_⟩) hHeld ?_ ?_
         rotate_left
         · rintro w' ⟨s0, s1, s2, s3, s4, s5, s6⟩
           go_simp
           with_reducible rfl
         rotate_left
         · simp only [Act.put, List.setIfInBounds_toArray, List.set_cons_zero, List.set_cons_succ, i64_w, i32_w]; rfl
         refine pure_ (i := 11) (N := some 151) (v := ?_) (a' := ?_) #[true, true, true, false, false, true, true, true, true, true, true, true, false, false, false, false, false, false, false, false] rfl rfl (any_of HT_.out (by kernel_rfl)) (fun _ _ _ h => h) (Or.inl ⟨by rfl, ?_⟩) ?_ ?_
         rotate_left
         · intro w'; go_simp; with_reducible rfl
         rotate_left
         · simp only [Act.put, List.setIfInBounds_toArray, List.set_cons_zero, List.set_cons_succ, i64_w, i32_w]; rfl
         refine take_ (i := 12) (N := some 152) (v := ?_) (a' := ?_) #[true, true, true, false, false, true, true, true, true, true, true, true, true, false, false, false, false, false, false, false] rfl rfl (take_ofW HT_.out HW_.out (by kernel_rfl)) (fun _ _ _ h => h) (Or.inl ⟨by rfl, ?_⟩) hHeld ?_ ?_
         rotate_left
         · rintro w' ⟨s0, s1, s2, s3, s4, s5, s6⟩
           go_simp
           with_reducible rfl
         rotate_left
         · simp only [Act.put, List.setIfInBounds_toArray, List.set_cons_zero, List.set_cons_succ, i64_w, i32_w]; rfl
         refine pure_ (i := 13) (N := some 153) (v := ?_) (a' := ?_) #[true, true, true, false, false, true, true, true, true, true, true, true, true, true, false, false, false, false, false, false] rfl rfl (any_of HT_.out (by kernel_rfl)) (fun _ _ _ h => h) (Or.inl ⟨by rfl, ?_⟩) ?_ ?_
         rotate_left
         · intro w'; go_simp; with_reducible rfl
         rotate_left
         · simp only [Act.put, List.setIfInBounds_toArray, List.set_cons_zero, List.set_cons_succ, i64_w, i32_w]; rfl
         refine join_ (σ := Value × Value × Value) 4 #[true, true, true, true, true, true, true, true, true, true, true, true, true, true, true, false, true, false, false, false] (fun s_ => [(143, s_.1), (144, s_.2.1), (154, s_.2.2), (156, .pointer (some ⟨gb249, 1, none⟩))]) (fun s_ w' => (w'.cell? ⟨gb249, 0, none⟩ = some (.int .i64 x250000_78) ∧ w'.cell? ⟨gb249, 1, none⟩ = some (.slice Ao112 x250001_3.length co112) ∧ w'.cell? ⟨gb249, 2, none⟩ = some (.slice Ao113 x250002_3.length co113) ∧ w'.cell? ⟨gb243, 0, none⟩ = some (.int .i64 a0_0) ∧ w'.cell? ⟨gb243, 1, none⟩ = some (.slice A0_1 l0_1.length c0_1) ∧ w'.cell? ⟨gb243, 2, none⟩ = some (.slice (some ad279) l0_2.length c0_2) ∧ w'.cell? (ad279.add (x8_3).toNat) = some (.int .i64 (rd l0_2 x8_3))) ∧ (Kd.R (Kd.int .i64) 3 w' w.heap.size (fun k_ => some k_ ≠ (s_.2.1 : Value).ownBlock ∧ some k_ ≠ (s_.2.2 : Value).ownBlock ∧ some k_ ≠ (.slice Ao113 x250002_3.length co113 : Value).ownBlock) s_.1 y273) ∧ (Kd.R (Kd.int .i64) 3 w' w.heap.size (fun k_ => some k_ ≠ (s_.1 : Value).ownBlock ∧ some k_ ≠ (s_.2.2 : Value).ownBlock ∧ some k_ ≠ (.slice Ao113 x250002_3.length co113 : Value).ownBlock) s_.2.1 y276) ∧ (Kd.R (Kd.int .i64) 3 w' w.heap.size (fun k_ => some k_ ≠ (s_.1 : Value).ownBlock ∧ some k_ ≠ (s_.2.1 : Value).ownBlock ∧ some k_ ≠ (.slice Ao113 x250002_3.length co113 : Value).ownBlock) s_.2.2 y280) ∧ (Kd.R (Kd.int .i64) 3 w' w.heap.size (fun k_ => some k_ ≠ (s_.1 : Value).ownBlock ∧ some k_ ≠ (s_.2.1 : Value).ownBlock ∧ some k_ ≠ (s_.2.2 : Value).ownBlock) (.slice Ao113 x250002_3.length co113) x250002_3) ∧ (w'.heap[gb243]? = some (.cells #[.int .i64 a0_0, .slice A0_1 l0_1.length c0_1, .slice (some ad279) l0_2.length c0_2] 31 (0, 0))) ∧ (w'.heap[gb244]? = some (.cells #[.int .i64 x245000_3, .slice none 0 0, .slice none 0 0] 31 (0, 0))) ∧ (w'.heap[gb249]? = some (.cells #[.int .i64 x250000_78, .slice Ao112 x250001_3.length co112, .slice Ao113 x250002_3.length co113] 31 (0, 0))) ∧ (w'.heap[gb252]? = some (.cells #[.int .i64 ((rd_T58 l1 x8_3).f2.f0), .int .i64 ((rd_T58 l1 x8_3).f2.f1), .int .i64 ((rd_T58 l1 x8_3).f2.f2)] 23 (0, 0))) ∧ (Below w.heap.size w w')) ?_ ?_
         rotate_left
         · intro hCont
           refine two_ (i := 3) (j := 14) (Ni := some 143) (Nj := some 154) #[true, true, true, true, false, true, true, true, true, true, true, true, true, true, false, false, false, false, false, false] #[true, true, true, false, false, true, true, true, true, true, true, true, true, true, true, false, false, false, false, false] rfl rfl rfl rfl (two_of HT_.out (by kernel_rfl)) (by decide) (by decide) (fun K hK => ?_) (fun K hK => ?_)
           · skip
             refine Kd.R_lit_step (Kd.int .i64) _ 3 ?hg (N := 143) ?hd (xs := ([x10_35] : List Int)) (inner := [.int .i64 x10_35]) (ok := fun _ => True) (okp := fun _ => True) ?hr ?hp (fun _ hk => hk) trivial (Below.refl _ _) (Nat.le_refl _) (by simp) ?_; (case hd => rfl); (case hg => rfl); (case hr => first | (go_simp; done) | (go_simp; rfl)); (case hp => exact (Reps.one (show Kd.M (Kd.int .i64) _ _ _ x10_35 [.int .i64 x10_35] from rfl) (Reps.none _ _)))
             intro v274 w115 ho116 hb hg_ hnew_
             clear hg_ hnew_
             (first | rw [← Ny273.out] at ho116 | (simp only [Int.reduceToNat] at ho116; rw [← Ny273.out] at ho116))
             have n0_ := Aside0.mk (Kd.R_elder' (by (with_reducible repeat first | apply Kd.R_alloc | apply Kd.R_drewN | apply Kd.R_drew); exact HO_250001.out) (Kd.R_base ho116) hb)
             have n1_ := Aside0.mk (Kd.R_elder' (by (with_reducible repeat first | apply Kd.R_alloc | apply Kd.R_drewN | apply Kd.R_drew); exact HO_250002.out) (Kd.R_base ho116) hb)
             have n2_ := Aside0.mk (Kd.R_lower (Kd.R_new' (Kd.R_new' ho116 (Kd.R_lt (by (with_reducible repeat first | apply Kd.R_alloc | apply Kd.R_drewN | apply Kd.R_drew); exact HO_250001.out))) (Kd.R_lt (by (with_reducible repeat first | apply Kd.R_alloc | apply Kd.R_drewN | apply Kd.R_drew); exact HO_250002.out))) (below_size (by repeat (first | (with_reducible first | exact HB.out | apply below_alloc | apply pw_below_drewN | apply below_drew1 | refine below_set ?_ GE243.out | refine below_set ?_ GE244.out | refine below_set ?_ GE249.out | refine below_set ?_ GE252.out) | exact HB.out))))
             have n3_ := Aside0.mk (blk_below (g := gb243) (o := .cells #[.int .i64 a0_0, .slice A0_1 l0_1.length c0_1, .slice (some ad279) l0_2.length c0_2] 31 (0, 0)) (by (with_reducible repeat first | apply blk_drewN | apply blk_drew | apply blk_alloc); exact BK243.out) hb)
             have n4_ := Aside0.mk (blk_below (g := gb244) (o := .cells #[.int .i64 x245000_3, .slice none 0 0, .slice none 0 0] 31 (0, 0)) (by (with_reducible repeat first | apply blk_drewN | apply blk_drew | apply blk_alloc); exact BK244.out) hb)
             have n5_ := Aside0.mk (blk_below (g := gb249) (o := .cells #[.int .i64 x250000_78, .slice Ao112 x250001_3.length co112, .slice Ao113 x250002_3.length co113] 31 (0, 0)) (by (with_reducible repeat first | apply blk_drewN | apply blk_drew | apply blk_alloc); exact BK249.out) hb)
             have n6_ := Aside0.mk (blk_below (g := gb252) (o := .cells #[.int .i64 ((rd_T58 l1 x8_3).f2.f0), .int .i64 ((rd_T58 l1 x8_3).f2.f1), .int .i64 ((rd_T58 l1 x8_3).f2.f2)] 23 (0, 0)) (by (with_reducible repeat first | apply blk_drewN | apply blk_drew | apply blk_alloc); exact BK252.out) hb)
             have n7_ := Aside0.mk (below_step (by repeat (first | (with_reducible first | exact HB.out | apply below_alloc | apply pw_below_drewN | apply below_drew1 | refine below_set ?_ GE243.out | refine below_set ?_ GE244.out | refine below_set ?_ GE249.out | refine below_set ?_ GE252.out) | exact HB.out)) hb)
             clear HO_250001
             clear HO_250002
             clear BK243
             clear BK244
             clear BK249
             clear BK252
             clear HB
             have HO_250001 := n0_
             have HO_250002 := n1_
             have HO275 := n2_
             have BK243 := n3_
             have BK244 := n4_
             have BK249 := n5_
             have BK252 := n6_
             have HB := n7_
             clear n0_ n1_ n2_ n3_ n4_ n5_ n6_ n7_
             clear hb ho116
             obtain ⟨Ao118, co118, eo118⟩ := Kd.R_slice HO275.out
             (first | subst eo118 | (injection eo118 with f1_ f2_ f3_; have f4_ := f1_.symm; have f5_ := f3_.symm; clear f1_ f2_ f3_; subst f4_; subst f5_))
             refine hK.out _ _ ⟨(blk_cell BK249.out 0).trans rfl, (blk_cell BK249.out 1).trans rfl, (blk_cell BK249.out 2).trans rfl, (blk_cell BK243.out 0).trans rfl, (blk_cell BK243.out 1).trans rfl, (blk_cell BK243.out 2).trans rfl, ((HB.out.cell (World.block_lt_of_cell? w _ hw279_0)).trans hw279_0)⟩ (fun hHeld => ?_)
             clear hK K
             refine norm_ (a' := ?_) ?_ ?_
             rotate_left
             · show Act.put _ (some 143) _ = _
               simp only [Act.put, List.setIfInBounds_toArray, List.set_cons_zero, List.set_cons_succ, i64_w, i32_w]
               rfl
             refine two_ (i := 4) (j := 14) (Ni := some 144) (Nj := some 154) #[true, true, true, true, true, true, true, true, true, true, true, true, true, true, false, false, false, false, false, false] #[true, true, true, true, false, true, true, true, true, true, true, true, true, true, true, false, false, false, false, false] rfl rfl rfl rfl (two_of HT_.out (by kernel_rfl)) (by decide) (by decide) (fun K hK => ?_) (fun K hK => ?_)
             · skip
               refine Kd.R_append_rows_step (Kd.int .i64) (w0 := w) w.heap.size (by rfl) (.tmp 141) (.tmp 143) 29 3 (.int .i64 0) 8 rfl Try.underlying29 info3 rfl (by decide) (by omega) (.slice Ao112 x250001_3.length co112) x250001_3 y273 _ _ _ (fun k_ => some k_ ≠ (.slice Ao113 x250002_3.length co113 : Value).ownBlock ∧ some k_ ≠ (.slice Ao118 y273.length co118 : Value).ownBlock) (fun _ => False) rfl rfl ?aO ?aR (fun _ _ h => h) (fun _ h => h.elim) ?aF ?aB ?aS ?aL ?_
               (case aR => repeat (first | exact (Kd.R_reads' HO275.out).2.2 | (with_reducible refine Kd.C_alloc ?_ _) | (with_reducible refine Kd.C_drewN ?_ _) | (with_reducible refine Kd.C_drew ?_)))
               (case aB => exact (by repeat (first | (with_reducible first | exact HB.out | apply below_alloc | apply pw_below_drewN | apply below_drew1 | refine below_set ?_ GE243.out | refine below_set ?_ GE244.out | refine below_set ?_ GE249.out | refine below_set ?_ GE252.out) | exact HB.out)))
               (case aF => exact (fun k_ hk => ⟨Kd.fresh' (Kd.R_lt (by (with_reducible repeat first | apply Kd.R_alloc | apply Kd.R_drewN | apply Kd.R_drew); exact HO_250002.out)) k_ hk, Kd.fresh' (Kd.R_lt (by (with_reducible repeat first | apply Kd.R_alloc | apply Kd.R_drewN | apply Kd.R_drew); exact HO275.out)) k_ hk⟩))
               (case aO => exact (by (with_reducible repeat first | apply Kd.R_alloc | apply Kd.R_drewN | apply Kd.R_drew); exact HO_250001.out))
               (case aS => exact (below_size (by repeat (first | (with_reducible first | exact HB.out | apply below_alloc | apply pw_below_drewN | apply below_drew1 | refine below_set ?_ GE243.out | refine below_set ?_ GE244.out | refine below_set ?_ GE249.out | refine below_set ?_ GE252.out) | exact HB.out))))
               (case aL => have := LMc109.out; omega)
               intro v277 w117 ho hb hg hat
               rw [← Ny276.out] at ho
               have n0_ := Aside0.mk (Kd.R_after (ok := (fun k_ => some k_ ≠ (.slice Ao118 y273.length co118 : Value).ownBlock)) (by (with_reducible repeat first | apply Kd.R_alloc | apply Kd.R_drewN | apply Kd.R_drew); exact Kd.R_mono HO_250002.out (fun _ hk => ⟨hk.2, hk.1⟩)) hg hat)
               have n1_ := Aside0.mk (blk_grown (g := gb243) (o := .cells #[.int .i64 a0_0, .slice A0_1 l0_1.length c0_1, .slice (some ad279) l0_2.length c0_2] 31 (0, 0)) (by (with_reducible repeat first | apply blk_drewN | apply blk_drew | apply blk_alloc); exact BK243.out) hg (Kd.R_ne HO_250001.out BK243.out (by decide)))
               have n2_ := Aside0.mk (blk_grown (g := gb244) (o := .cells #[.int .i64 x245000_3, .slice none 0 0, .slice none 0 0] 31 (0, 0)) (by (with_reducible repeat first | apply blk_drewN | apply blk_drew | apply blk_alloc); exact BK244.out) hg (Kd.R_ne HO_250001.out BK244.out (by decide)))
               have n3_ := Aside0.mk (blk_grown (g := gb249) (o := .cells #[.int .i64 x250000_78, .slice Ao112 x250001_3.length co112, .slice Ao113 x250002_3.length co113] 31 (0, 0)) (by (with_reducible repeat first | apply blk_drewN | apply blk_drew | apply blk_alloc); exact BK249.out) hg (Kd.R_ne HO_250001.out BK249.out (by decide)))
               have n4_ := Aside0.mk (blk_grown (g := gb252) (o := .cells #[.int .i64 ((rd_T58 l1 x8_3).f2.f0), .int .i64 ((rd_T58 l1 x8_3).f2.f1), .int .i64 ((rd_T58 l1 x8_3).f2.f2)] 23 (0, 0)) (by (with_reducible repeat first | apply blk_drewN | apply blk_drew | apply blk_alloc); exact BK252.out) hg (Kd.R_ne HO_250001.out BK252.out (by decide)))
               have n5_ := Aside0.mk (Kd.R_after (ok := (fun k_ => some k_ ≠ (.slice Ao113 x250002_3.length co113 : Value).ownBlock)) (by (with_reducible repeat first | apply Kd.R_alloc | apply Kd.R_drewN | apply Kd.R_drew); exact Kd.R_mono HO275.out (fun _ hk => ⟨hk.2, hk.1.2⟩)) hg hat)
               have n6_ := Aside0.mk (hb)
               have n7_ := Aside0.mk (ho)
               clear HO_250002
               clear BK243
               clear BK244
               clear BK249
               clear BK252
               clear HO275
               clear HB
               clear HO_250001
               have HO_250002 := n0_
               have BK243 := n1_
               have BK244 := n2_
               have BK249 := n3_
               have BK252 := n4_
               have HO275 := n5_
               have HB := n6_
               have HO278 := n7_
               clear n0_ n1_ n2_ n3_ n4_ n5_ n6_ n7_
               clear ho hb hg hat
               refine hK.out _ _ ⟨(blk_cell BK249.out 0).trans rfl, (blk_cell BK249.out 1).trans rfl, (blk_cell BK249.out 2).trans rfl, (blk_cell BK243.out 0).trans rfl, (blk_cell BK243.out 1).trans rfl, (blk_cell BK243.out 2).trans rfl, ((HB.out.cell (World.block_lt_of_cell? w _ hw279_0)).trans hw279_0)⟩ (fun hHeld => ?_)
               clear hK K
               refine norm_ (a' := ?_) ?_ ?_
               rotate_left
               · show Act.put _ (some 144) _ = _
                 simp only [Act.put, List.setIfInBounds_toArray, List.set_cons_zero, List.set_cons_succ, i64_w, i32_w]
                 rfl
               refine pure_ (i := 16) (N := some 156) (v := ?_) (a' := ?_) #[true, true, true, true, true, true, true, true, true, true, true, true, true, true, false, false, true, false, false, false] rfl rfl (any_of HT_.out (by kernel_rfl)) (fun _ _ _ h => h) (Or.inl ⟨by rfl, ?_⟩) ?_ ?_
               rotate_left
               · intro w'; go_simp; with_reducible rfl
               rotate_left
               · simp only [Act.put, List.setIfInBounds_toArray, List.set_cons_zero, List.set_cons_succ, i64_w, i32_w]; rfl
               refine one_ (i := 14) (N := some 154) #[true, true, true, true, true, true, true, true, true, true, true, true, true, true, true, false, true, false, false, false] rfl rfl (one_of HT_.out (by kernel_rfl)) (by decide) (fun K hK => ?_)
               refine Kd.R_lit_step (Kd.int .i64) _ 3 ?hg (N := 154) ?hd (xs := ([wrap64 (x11_35 * (rd l0_2 x8_3))] : List Int)) (inner := [.int .i64 (wrap64 (x11_35 * (rd l0_2 x8_3)))]) (ok := fun _ => True) (okp := fun _ => True) ?hr ?hp (fun _ hk => hk) trivial (Below.refl _ _) (Nat.le_refl _) (by simp) ?_; (case hd => rfl); (case hg => rfl); (case hr => first | (go_simp; done) | (go_simp; rfl)); (case hp => exact (Reps.one (show Kd.M (Kd.int .i64) _ _ _ (wrap64 (x11_35 * (rd l0_2 x8_3))) [.int .i64 (wrap64 (x11_35 * (rd l0_2 x8_3)))] from rfl) (Reps.none _ _)))
               intro v281 w119 ho120 hb hg_ hnew_
               clear hg_ hnew_
               (first | rw [← Ny280.out] at ho120 | (simp only [Int.reduceToNat] at ho120; rw [← Ny280.out] at ho120))
               have n0_ := Aside0.mk (Kd.R_elder' (by (with_reducible repeat first | apply Kd.R_alloc | apply Kd.R_drewN | apply Kd.R_drew); exact HO_250002.out) (Kd.R_base ho120) hb)
               have n1_ := Aside0.mk (Kd.R_elder' (by (with_reducible repeat first | apply Kd.R_alloc | apply Kd.R_drewN | apply Kd.R_drew); exact HO275.out) (Kd.R_base ho120) hb)
               have n2_ := Aside0.mk (Kd.R_elder' (by (with_reducible repeat first | apply Kd.R_alloc | apply Kd.R_drewN | apply Kd.R_drew); exact HO278.out) (Kd.R_base ho120) hb)
               have n3_ := Aside0.mk (Kd.R_lower (Kd.R_new' (Kd.R_new' (Kd.R_new' ho120 (Kd.R_lt (by (with_reducible repeat first | apply Kd.R_alloc | apply Kd.R_drewN | apply Kd.R_drew); exact HO_250002.out))) (Kd.R_lt (by (with_reducible repeat first | apply Kd.R_alloc | apply Kd.R_drewN | apply Kd.R_drew); exact HO275.out))) (Kd.R_lt (by (with_reducible repeat first | apply Kd.R_alloc | apply Kd.R_drewN | apply Kd.R_drew); exact HO278.out))) (below_size (by repeat (first | (with_reducible first | exact HB.out | apply below_alloc | apply pw_below_drewN | apply below_drew1 | refine below_set ?_ GE243.out | refine below_set ?_ GE244.out | refine below_set ?_ GE249.out | refine below_set ?_ GE252.out) | exact HB.out))))
               have n4_ := Aside0.mk (blk_below (g := gb243) (o := .cells #[.int .i64 a0_0, .slice A0_1 l0_1.length c0_1, .slice (some ad279) l0_2.length c0_2] 31 (0, 0)) (by (with_reducible repeat first | apply blk_drewN | apply blk_drew | apply blk_alloc); exact BK243.out) hb)
               have n5_ := Aside0.mk (blk_below (g := gb244) (o := .cells #[.int .i64 x245000_3, .slice none 0 0, .slice none 0 0] 31 (0, 0)) (by (with_reducible repeat first | apply blk_drewN | apply blk_drew | apply blk_alloc); exact BK244.out) hb)
               have n6_ := Aside0.mk (blk_below (g := gb249) (o := .cells #[.int .i64 x250000_78, .slice Ao112 x250001_3.length co112, .slice Ao113 x250002_3.length co113] 31 (0, 0)) (by (with_reducible repeat first | apply blk_drewN | apply blk_drew | apply blk_alloc); exact BK249.out) hb)
               have n7_ := Aside0.mk (blk_below (g := gb252) (o := .cells #[.int .i64 ((rd_T58 l1 x8_3).f2.f0), .int .i64 ((rd_T58 l1 x8_3).f2.f1), .int .i64 ((rd_T58 l1 x8_3).f2.f2)] 23 (0, 0)) (by (with_reducible repeat first | apply blk_drewN | apply blk_drew | apply blk_alloc); exact BK252.out) hb)
               have n8_ := Aside0.mk (below_step (by repeat (first | (with_reducible first | exact HB.out | apply below_alloc | apply pw_below_drewN | apply below_drew1 | refine below_set ?_ GE243.out | refine below_set ?_ GE244.out | refine below_set ?_ GE249.out | refine below_set ?_ GE252.out) | exact HB.out)) hb)
               clear HO_250002
               clear HO275
               clear HO278
               clear BK243
               clear BK244
               clear BK249
               clear BK252
               clear HB
               have HO_250002 := n0_
               have HO275 := n1_
               have HO278 := n2_
               have HO282 := n3_
               have BK243 := n4_
               have BK244 := n5_
               have BK249 := n6_
               have BK252 := n7_
               have HB := n8_
               clear n0_ n1_ n2_ n3_ n4_ n5_ n6_ n7_ n8_
               clear hb ho120
               refine hK.out _ _ ⟨(blk_cell BK249.out 0).trans rfl, (blk_cell BK249.out 1).trans rfl, (blk_cell BK249.out 2).trans rfl, (blk_cell BK243.out 0).trans rfl, (blk_cell BK243.out 1).trans rfl, (blk_cell BK243.out 2).trans rfl, ((HB.out.cell (World.block_lt_of_cell? w _ hw279_0)).trans hw279_0)⟩ (fun hHeld => ?_)
               clear hK K
               refine norm_ (a' := ?_) ?_ ?_
               rotate_left
               · show Act.put _ (some 154) _ = _
                 simp only [Act.put, List.setIfInBounds_toArray, List.set_cons_zero, List.set_cons_succ, i64_w, i32_w]
                 rfl
               exact norm_ (by simp only [putAll, Act.put, List.setIfInBounds_toArray, List.set_cons_zero, List.set_cons_succ]) (hCont (.slice Ao118 y273.length co118, v277, v281) _ ⟨hHeld, (by (with_reducible repeat first | apply Kd.R_alloc | apply Kd.R_drewN | apply Kd.R_drew); exact Kd.R_mono HO275.out (fun _ hk => ⟨hk.1.2, ⟨hk.2, hk.1.1⟩⟩)), (by (with_reducible repeat first | apply Kd.R_alloc | apply Kd.R_drewN | apply Kd.R_drew); exact Kd.R_mono HO278.out (fun _ hk => ⟨hk.1.2, ⟨hk.2, hk.1.1⟩⟩)), (by (with_reducible repeat first | apply Kd.R_alloc | apply Kd.R_drewN | apply Kd.R_drew); exact Kd.R_mono HO282.out (fun _ hk => ⟨hk.1.2, ⟨hk.2, hk.1.1.2⟩⟩)), (by (with_reducible repeat first | apply Kd.R_alloc | apply Kd.R_drewN | apply Kd.R_drew); exact Kd.R_mono HO_250002.out (fun _ hk => ⟨hk.1.1, ⟨hk.1.2, hk.2⟩⟩)), (by (with_reducible repeat first | apply blk_drewN | apply blk_drew | apply blk_alloc); exact BK243.out), (by (with_reducible repeat first | apply blk_drewN | apply blk_drew | apply blk_alloc); exact BK244.out), (by (with_reducible repeat first | apply blk_drewN | apply blk_drew | apply blk_alloc); exact BK249.out), (by (with_reducible repeat first | apply blk_drewN | apply blk_drew | apply blk_alloc); exact BK252.out), (by repeat (first | (with_reducible first | exact HB.out | apply below_alloc | apply pw_below_drewN | apply below_drew1 | refine below_set ?_ GE243.out | refine below_set ?_ GE244.out | refine below_set ?_ GE249.out | refine below_set ?_ GE252.out) | exact HB.out))⟩)
             skip
             refine Kd.R_lit_step (Kd.int .i64) _ 3 ?hg (N := 154) ?hd (xs := ([wrap64 (x11_35 * (rd l0_2 x8_3))] : List Int)) (inner := [.int .i64 (wrap64 (x11_35 * (rd l0_2 x8_3)))]) (ok := fun _ => True) (okp := fun _ => True) ?hr ?hp (fun _ hk => hk) trivial (Below.refl _ _) (Nat.le_refl _) (by simp) ?_; (case hd => rfl); (case hg => rfl); (case hr => first | (go_simp; done) | (go_simp; rfl)); (case hp => exact (Reps.one (show Kd.M (Kd.int .i64) _ _ _ (wrap64 (x11_35 * (rd l0_2 x8_3))) [.int .i64 (wrap64 (x11_35 * (rd l0_2 x8_3)))] from rfl) (Reps.none _ _)))
             intro v281 w117 ho118 hb hg_ hnew_
             clear hg_ hnew_
             (first | rw [← Ny280.out] at ho118 | (simp only [Int.reduceToNat] at ho118; rw [← Ny280.out] at ho118))
             have n0_ := Aside0.mk (Kd.R_elder' (by (with_reducible repeat first | apply Kd.R_alloc | apply Kd.R_drewN | apply Kd.R_drew); exact HO_250001.out) (Kd.R_base ho118) hb)
             have n1_ := Aside0.mk (Kd.R_elder' (by (with_reducible repeat first | apply Kd.R_alloc | apply Kd.R_drewN | apply Kd.R_drew); exact HO_250002.out) (Kd.R_base ho118) hb)
             have n2_ := Aside0.mk (Kd.R_elder' (by (with_reducible repeat first | apply Kd.R_alloc | apply Kd.R_drewN | apply Kd.R_drew); exact HO275.out) (Kd.R_base ho118) hb)
             have n3_ := Aside0.mk (Kd.R_lower (Kd.R_new' (Kd.R_new' (Kd.R_new' ho118 (Kd.R_lt (by (with_reducible repeat first | apply Kd.R_alloc | apply Kd.R_drewN | apply Kd.R_drew); exact HO_250001.out))) (Kd.R_lt (by (with_reducible repeat first | apply Kd.R_alloc | apply Kd.R_drewN | apply Kd.R_drew); exact HO_250002.out))) (Kd.R_lt (by (with_reducible repeat first | apply Kd.R_alloc | apply Kd.R_drewN | apply Kd.R_drew); exact HO275.out))) (below_size (by repeat (first | (with_reducible first | exact HB.out | apply below_alloc | apply pw_below_drewN | apply below_drew1 | refine below_set ?_ GE243.out | refine below_set ?_ GE244.out | refine below_set ?_ GE249.out | refine below_set ?_ GE252.out) | exact HB.out))))
             have n4_ := Aside0.mk (blk_below (g := gb243) (o := .cells #[.int .i64 a0_0, .slice A0_1 l0_1.length c0_1, .slice (some ad279) l0_2.length c0_2] 31 (0, 0)) (by (with_reducible repeat first | apply blk_drewN | apply blk_drew | apply blk_alloc); exact BK243.out) hb)
             have n5_ := Aside0.mk (blk_below (g := gb244) (o := .cells #[.int .i64 x245000_3, .slice none 0 0, .slice none 0 0] 31 (0, 0)) (by (with_reducible repeat first | apply blk_drewN | apply blk_drew | apply blk_alloc); exact BK244.out) hb)
             have n6_ := Aside0.mk (blk_below (g := gb249) (o := .cells #[.int .i64 x250000_78, .slice Ao112 x250001_3.length co112, .slice Ao113 x250002_3.length co113] 31 (0, 0)) (by (with_reducible repeat first | apply blk_drewN | apply blk_drew | apply blk_alloc); exact BK249.out) hb)
             have n7_ := Aside0.mk (blk_below (g := gb252) (o := .cells #[.int .i64 ((rd_T58 l1 x8_3).f2.f0), .int .i64 ((rd_T58 l1 x8_3).f2.f1), .int .i64 ((rd_T58 l1 x8_3).f2.f2)] 23 (0, 0)) (by (with_reducible repeat first | apply blk_drewN | apply blk_drew | apply blk_alloc); exact BK252.out) hb)
             have n8_ := Aside0.mk (below_step (by repeat (first | (with_reducible first | exact HB.out | apply below_alloc | apply pw_below_drewN | apply below_drew1 | refine below_set ?_ GE243.out | refine below_set ?_ GE244.out | refine below_set ?_ GE249.out | refine below_set ?_ GE252.out) | exact HB.out)) hb)
             clear HO_250001
             clear HO_250002
             clear HO275
             clear BK243
             clear BK244
             clear BK249
             clear BK252
             clear HB
             have HO_250001 := n0_
             have HO_250002 := n1_
             have HO275 := n2_
             have HO282 := n3_
             have BK243 := n4_
             have BK244 := n5_
             have BK249 := n6_
             have BK252 := n7_
             have HB := n8_
             clear n0_ n1_ n2_ n3_ n4_ n5_ n6_ n7_ n8_
             clear hb ho118
             obtain ⟨Ao120, co120, eo120⟩ := Kd.R_slice HO275.out
             (first | subst eo120 | (injection eo120 with f1_ f2_ f3_; have f4_ := f1_.symm; have f5_ := f3_.symm; clear f1_ f2_ f3_; subst f4_; subst f5_))
             refine hK.out _ _ ⟨(blk_cell BK249.out 0).trans rfl, (blk_cell BK249.out 1).trans rfl, (blk_cell BK249.out 2).trans rfl, (blk_cell BK243.out 0).trans rfl, (blk_cell BK243.out 1).trans rfl, (blk_cell BK243.out 2).trans rfl, ((HB.out.cell (World.block_lt_of_cell? w _ hw279_0)).trans hw279_0)⟩ (fun hHeld => ?_)
             clear hK K
             refine norm_ (a' := ?_) ?_ ?_
             rotate_left
             · show Act.put _ (some 154) _ = _
               simp only [Act.put, List.setIfInBounds_toArray, List.set_cons_zero, List.set_cons_succ, i64_w, i32_w]
               rfl
             refine one_ (i := 4) (N := some 144) #[true, true, true, true, true, true, true, true, true, true, true, true, true, true, true, false, false, false, false, false] rfl rfl (one_of HT_.out (by kernel_rfl)) (by decide) (fun K hK => ?_)
             refine Kd.R_append_rows_step (Kd.int .i64) (w0 := w) w.heap.size (by rfl) (.tmp 141) (.tmp 143) 29 3 (.int .i64 0) 8 rfl Try.underlying29 info3 rfl (by decide) (by omega) (.slice Ao112 x250001_3.length co112) x250001_3 y273 _ _ _ (fun k_ => some k_ ≠ (.slice Ao113 x250002_3.length co113 : Value).ownBlock ∧ some k_ ≠ (.slice Ao120 y273.length co120 : Value).ownBlock ∧ some k_ ≠ (v281 : Value).ownBlock) (fun _ => False) rfl rfl ?aO ?aR (fun _ _ h => h) (fun _ h => h.elim) ?aF ?aB ?aS ?aL ?_
             (case aR => repeat (first | exact (Kd.R_reads' HO275.out).2.2 | (with_reducible refine Kd.C_alloc ?_ _) | (with_reducible refine Kd.C_drewN ?_ _) | (with_reducible refine Kd.C_drew ?_)))
             (case aB => exact (by repeat (first | (with_reducible first | exact HB.out | apply below_alloc | apply pw_below_drewN | apply below_drew1 | refine below_set ?_ GE243.out | refine below_set ?_ GE244.out | refine below_set ?_ GE249.out | refine below_set ?_ GE252.out) | exact HB.out)))
             (case aF => exact (fun k_ hk => ⟨Kd.fresh' (Kd.R_lt (by (with_reducible repeat first | apply Kd.R_alloc | apply Kd.R_drewN | apply Kd.R_drew); exact HO_250002.out)) k_ hk, Kd.fresh' (Kd.R_lt (by (with_reducible repeat first | apply Kd.R_alloc | apply Kd.R_drewN | apply Kd.R_drew); exact HO275.out)) k_ hk, Kd.fresh' (Kd.R_lt (by (with_reducible repeat first | apply Kd.R_alloc | apply Kd.R_drewN | apply Kd.R_drew); exact HO282.out)) k_ hk⟩))
             (case aO => exact (by (with_reducible repeat first | apply Kd.R_alloc | apply Kd.R_drewN | apply Kd.R_drew); exact Kd.R_mono HO_250001.out (fun _ hk => ⟨hk.1.1, ⟨hk.1.2, hk.2⟩⟩)))
             (case aS => exact (below_size (by repeat (first | (with_reducible first | exact HB.out | apply below_alloc | apply pw_below_drewN | apply below_drew1 | refine below_set ?_ GE243.out | refine below_set ?_ GE244.out | refine below_set ?_ GE249.out | refine below_set ?_ GE252.out) | exact HB.out))))
             (case aL => have := LMc109.out; omega)
             intro v277 w119 ho hb hg hat
             rw [← Ny276.out] at ho
             have n0_ := Aside0.mk (Kd.R_after (ok := (fun k_ => some k_ ≠ (.slice Ao120 y273.length co120 : Value).ownBlock ∧ some k_ ≠ (v281 : Value).ownBlock)) (by (with_reducible repeat first | apply Kd.R_alloc | apply Kd.R_drewN | apply Kd.R_drew); exact Kd.R_mono HO_250002.out (fun _ hk => ⟨⟨hk.1.2, hk.2⟩, hk.1.1⟩)) hg hat)
             have n1_ := Aside0.mk (blk_grown (g := gb243) (o := .cells #[.int .i64 a0_0, .slice A0_1 l0_1.length c0_1, .slice (some ad279) l0_2.length c0_2] 31 (0, 0)) (by (with_reducible repeat first | apply blk_drewN | apply blk_drew | apply blk_alloc); exact BK243.out) hg (Kd.R_ne HO_250001.out BK243.out (by decide)))
             have n2_ := Aside0.mk (blk_grown (g := gb244) (o := .cells #[.int .i64 x245000_3, .slice none 0 0, .slice none 0 0] 31 (0, 0)) (by (with_reducible repeat first | apply blk_drewN | apply blk_drew | apply blk_alloc); exact BK244.out) hg (Kd.R_ne HO_250001.out BK244.out (by decide)))
             have n3_ := Aside0.mk (blk_grown (g := gb249) (o := .cells #[.int .i64 x250000_78, .slice Ao112 x250001_3.length co112, .slice Ao113 x250002_3.length co113] 31 (0, 0)) (by (with_reducible repeat first | apply blk_drewN | apply blk_drew | apply blk_alloc); exact BK249.out) hg (Kd.R_ne HO_250001.out BK249.out (by decide)))
             have n4_ := Aside0.mk (blk_grown (g := gb252) (o := .cells #[.int .i64 ((rd_T58 l1 x8_3).f2.f0), .int .i64 ((rd_T58 l1 x8_3).f2.f1), .int .i64 ((rd_T58 l1 x8_3).f2.f2)] 23 (0, 0)) (by (with_reducible repeat first | apply blk_drewN | apply blk_drew | apply blk_alloc); exact BK252.out) hg (Kd.R_ne HO_250001.out BK252.out (by decide)))
             have n5_ := Aside0.mk (Kd.R_after (ok := (fun k_ => some k_ ≠ (.slice Ao113 x250002_3.length co113 : Value).ownBlock ∧ some k_ ≠ (v281 : Value).ownBlock)) (by (with_reducible repeat first | apply Kd.R_alloc | apply Kd.R_drewN | apply Kd.R_drew); exact Kd.R_mono HO275.out (fun _ hk => ⟨⟨hk.1.2, hk.2⟩, hk.1.1.2⟩)) hg hat)
             have n6_ := Aside0.mk (Kd.R_after (ok := (fun k_ => some k_ ≠ (.slice Ao113 x250002_3.length co113 : Value).ownBlock ∧ some k_ ≠ (.slice Ao120 y273.length co120 : Value).ownBlock)) (by (with_reducible repeat first | apply Kd.R_alloc | apply Kd.R_drewN | apply Kd.R_drew); exact Kd.R_mono HO282.out (fun _ hk => ⟨⟨hk.1.2, hk.2⟩, hk.1.1.2⟩)) hg hat)
             have n7_ := Aside0.mk (hb)
             have n8_ := Aside0.mk (ho)
             clear HO_250002
             clear BK243
             clear BK244
             clear BK249
             clear BK252
             clear HO275
             clear HO282
             clear HB
             clear HO_250001
             have HO_250002 := n0_
             have BK243 := n1_
             have BK244 := n2_
             have BK249 := n3_
             have BK252 := n4_
             have HO275 := n5_
             have HO282 := n6_
             have HB := n7_
             have HO278 := n8_
             clear n0_ n1_ n2_ n3_ n4_ n5_ n6_ n7_ n8_
             clear ho hb hg hat
             refine hK.out _ _ ⟨(blk_cell BK249.out 0).trans rfl, (blk_cell BK249.out 1).trans rfl, (blk_cell BK249.out 2).trans rfl, (blk_cell BK243.out 0).trans rfl, (blk_cell BK243.out 1).trans rfl, (blk_cell BK243.out 2).trans rfl, ((HB.out.cell (World.block_lt_of_cell? w _ hw279_0)).trans hw279_0)⟩ (fun hHeld => ?_)
             clear hK K
             refine norm_ (a' := ?_) ?_ ?_
             rotate_left
             · show Act.put _ (some 144) _ = _
               simp only [Act.put, List.setIfInBounds_toArray, List.set_cons_zero, List.set_cons_succ, i64_w, i32_w]
               rfl
             refine pure_ (i := 16) (N := some 156) (v := ?_) (a' := ?_) #[true, true, true, true, true, true, true, true, true, true, true, true, true, true, true, false, true, false, false, false] rfl rfl (any_of HT_.out (by kernel_rfl)) (fun _ _ _ h => h) (Or.inl ⟨by rfl, ?_⟩) ?_ ?_
             rotate_left
             · intro w'; go_simp; with_reducible rfl
             rotate_left
             · simp only [Act.put, List.setIfInBounds_toArray, List.set_cons_zero, List.set_cons_succ, i64_w, i32_w]; rfl
             exact norm_ (by simp only [putAll, Act.put, List.setIfInBounds_toArray, List.set_cons_zero, List.set_cons_succ]) (hCont (.slice Ao120 y273.length co120, v277, v281) _ ⟨hHeld, (by (with_reducible repeat first | apply Kd.R_alloc | apply Kd.R_drewN | apply Kd.R_drew); exact Kd.R_mono HO275.out (fun _ hk => ⟨hk.2, ⟨hk.1.2, hk.1.1⟩⟩)), (by (with_reducible repeat first | apply Kd.R_alloc | apply Kd.R_drewN | apply Kd.R_drew); exact Kd.R_mono HO278.out (fun _ hk => ⟨hk.2.1, ⟨hk.2.2, hk.1⟩⟩)), (by (with_reducible repeat first | apply Kd.R_alloc | apply Kd.R_drewN | apply Kd.R_drew); exact Kd.R_mono HO282.out (fun _ hk => ⟨hk.1.2, ⟨hk.2, hk.1.1⟩⟩)), (by (with_reducible repeat first | apply Kd.R_alloc | apply Kd.R_drewN | apply Kd.R_drew); exact Kd.R_mono HO_250002.out (fun _ hk => ⟨hk.1.1, ⟨hk.2, hk.1.2⟩⟩)), (by (with_reducible repeat first | apply blk_drewN | apply blk_drew | apply blk_alloc); exact BK243.out), (by (with_reducible repeat first | apply blk_drewN | apply blk_drew | apply blk_alloc); exact BK244.out), (by (with_reducible repeat first | apply blk_drewN | apply blk_drew | apply blk_alloc); exact BK249.out), (by (with_reducible repeat first | apply blk_drewN | apply blk_drew | apply blk_alloc); exact BK252.out), (by repeat (first | (with_reducible first | exact HB.out | apply below_alloc | apply pw_below_drewN | apply below_drew1 | refine below_set ?_ GE243.out | refine below_set ?_ GE244.out | refine below_set ?_ GE249.out | refine below_set ?_ GE252.out) | exact HB.out))⟩)
           skip
           refine Kd.R_lit_step (Kd.int .i64) _ 3 ?hg (N := 154) ?hd (xs := ([wrap64 (x11_35 * (rd l0_2 x8_3))] : List Int)) (inner := [.int .i64 (wrap64 (x11_35 * (rd l0_2 x8_3)))]) (ok := fun _ => True) (okp := fun _ => True) ?hr ?hp (fun _ hk => hk) trivial (Below.refl _ _) (Nat.le_refl _) (by simp) ?_; (case hd => rfl); (case hg => rfl); (case hr => first | (go_simp; done) | (go_simp; rfl)); (case hp => exact (Reps.one (show Kd.M (Kd.int .i64) _ _ _ (wrap64 (x11_35 * (rd l0_2 x8_3))) [.int .i64 (wrap64 (x11_35 * (rd l0_2 x8_3)))] from rfl) (Reps.none _ _)))
           intro v281 w115 ho116 hb hg_ hnew_
           clear hg_ hnew_
           (first | rw [← Ny280.out] at ho116 | (simp only [Int.reduceToNat] at ho116; rw [← Ny280.out] at ho116))
           have n0_ := Aside0.mk (Kd.R_elder' (by (with_reducible repeat first | apply Kd.R_alloc | apply Kd.R_drewN | apply Kd.R_drew); exact HO_250001.out) (Kd.R_base ho116) hb)
           have n1_ := Aside0.mk (Kd.R_elder' (by (with_reducible repeat first | apply Kd.R_alloc | apply Kd.R_drewN | apply Kd.R_drew); exact HO_250002.out) (Kd.R_base ho116) hb)
           have n2_ := Aside0.mk (Kd.R_lower (Kd.R_new' (Kd.R_new' ho116 (Kd.R_lt (by (with_reducible repeat first | apply Kd.R_alloc | apply Kd.R_drewN | apply Kd.R_drew); exact HO_250001.out))) (Kd.R_lt (by (with_reducible repeat first | apply Kd.R_alloc | apply Kd.R_drewN | apply Kd.R_drew); exact HO_250002.out))) (below_size (by repeat (first | (with_reducible first | exact HB.out | apply below_alloc | apply pw_below_drewN | apply below_drew1 | refine below_set ?_ GE243.out | refine below_set ?_ GE244.out | refine below_set ?_ GE249.out | refine below_set ?_ GE252.out) | exact HB.out))))
           have n3_ := Aside0.mk (blk_below (g := gb243) (o := .cells #[.int .i64 a0_0, .slice A0_1 l0_1.length c0_1, .slice (some ad279) l0_2.length c0_2] 31 (0, 0)) (by (with_reducible repeat first | apply blk_drewN | apply blk_drew | apply blk_alloc); exact BK243.out) hb)
           have n4_ := Aside0.mk (blk_below (g := gb244) (o := .cells #[.int .i64 x245000_3, .slice none 0 0, .slice none 0 0] 31 (0, 0)) (by (with_reducible repeat first | apply blk_drewN | apply blk_drew | apply blk_alloc); exact BK244.out) hb)
           have n5_ := Aside0.mk (blk_below (g := gb249) (o := .cells #[.int .i64 x250000_78, .slice Ao112 x250001_3.length co112, .slice Ao113 x250002_3.length co113] 31 (0, 0)) (by (with_reducible repeat first | apply blk_drewN | apply blk_drew | apply blk_alloc); exact BK249.out) hb)
           have n6_ := Aside0.mk (blk_below (g := gb252) (o := .cells #[.int .i64 ((rd_T58 l1 x8_3).f2.f0), .int .i64 ((rd_T58 l1 x8_3).f2.f1), .int .i64 ((rd_T58 l1 x8_3).f2.f2)] 23 (0, 0)) (by (with_reducible repeat first | apply blk_drewN | apply blk_drew | apply blk_alloc); exact BK252.out) hb)
           have n7_ := Aside0.mk (below_step (by repeat (first | (with_reducible first | exact HB.out | apply below_alloc | apply pw_below_drewN | apply below_drew1 | refine below_set ?_ GE243.out | refine below_set ?_ GE244.out | refine below_set ?_ GE249.out | refine below_set ?_ GE252.out) | exact HB.out)) hb)
           clear HO_250001
           clear HO_250002
           clear BK243
           clear BK244
           clear BK249
           clear BK252
           clear HB
           have HO_250001 := n0_
           have HO_250002 := n1_
           have HO282 := n2_
           have BK243 := n3_
           have BK244 := n4_
           have BK249 := n5_
           have BK252 := n6_
           have HB := n7_
           clear n0_ n1_ n2_ n3_ n4_ n5_ n6_ n7_
           clear hb ho116
           refine hK.out _ _ ⟨(blk_cell BK249.out 0).trans rfl, (blk_cell BK249.out 1).trans rfl, (blk_cell BK249.out 2).trans rfl, (blk_cell BK243.out 0).trans rfl, (blk_cell BK243.out 1).trans rfl, (blk_cell BK243.out 2).trans rfl, ((HB.out.cell (World.block_lt_of_cell? w _ hw279_0)).trans hw279_0)⟩ (fun hHeld => ?_)
           clear hK K
           refine norm_ (a' := ?_) ?_ ?_
           rotate_left
           · show Act.put _ (some 154) _ = _
             simp only [Act.put, List.setIfInBounds_toArray, List.set_cons_zero, List.set_cons_succ, i64_w, i32_w]
             rfl
           refine one_ (i := 3) (N := some 143) #[true, true, true, true, false, true, true, true, true, true, true, true, true, true, true, false, false, false, false, false] rfl rfl (one_of HT_.out (by kernel_rfl)) (by decide) (fun K hK => ?_)
           refine Kd.R_lit_step (Kd.int .i64) _ 3 ?hg (N := 143) ?hd (xs := ([x10_35] : List Int)) (inner := [.int .i64 x10_35]) (ok := fun _ => True) (okp := fun _ => True) ?hr ?hp (fun _ hk => hk) trivial (Below.refl _ _) (Nat.le_refl _) (by simp) ?_; (case hd => rfl); (case hg => rfl); (case hr => first | (go_simp; done) | (go_simp; rfl)); (case hp => exact (Reps.one (show Kd.M (Kd.int .i64) _ _ _ x10_35 [.int .i64 x10_35] from rfl) (Reps.none _ _)))
           intro v274 w117 ho118 hb hg_ hnew_
           clear hg_ hnew_
           (first | rw [← Ny273.out] at ho118 | (simp only [Int.reduceToNat] at ho118; rw [← Ny273.out] at ho118))
           have n0_ := Aside0.mk (Kd.R_elder' (by (with_reducible repeat first | apply Kd.R_alloc | apply Kd.R_drewN | apply Kd.R_drew); exact HO_250001.out) (Kd.R_base ho118) hb)
           have n1_ := Aside0.mk (Kd.R_elder' (by (with_reducible repeat first | apply Kd.R_alloc | apply Kd.R_drewN | apply Kd.R_drew); exact HO_250002.out) (Kd.R_base ho118) hb)
           have n2_ := Aside0.mk (Kd.R_elder' (by (with_reducible repeat first | apply Kd.R_alloc | apply Kd.R_drewN | apply Kd.R_drew); exact HO282.out) (Kd.R_base ho118) hb)
           have n3_ := Aside0.mk (Kd.R_lower (Kd.R_new' (Kd.R_new' (Kd.R_new' ho118 (Kd.R_lt (by (with_reducible repeat first | apply Kd.R_alloc | apply Kd.R_drewN | apply Kd.R_drew); exact HO_250001.out))) (Kd.R_lt (by (with_reducible repeat first | apply Kd.R_alloc | apply Kd.R_drewN | apply Kd.R_drew); exact HO_250002.out))) (Kd.R_lt (by (with_reducible repeat first | apply Kd.R_alloc | apply Kd.R_drewN | apply Kd.R_drew); exact HO282.out))) (below_size (by repeat (first | (with_reducible first | exact HB.out | apply below_alloc | apply pw_below_drewN | apply below_drew1 | refine below_set ?_ GE243.out | refine below_set ?_ GE244.out | refine below_set ?_ GE249.out | refine below_set ?_ GE252.out) | exact HB.out))))
           have n4_ := Aside0.mk (blk_below (g := gb243) (o := .cells #[.int .i64 a0_0, .slice A0_1 l0_1.length c0_1, .slice (some ad279) l0_2.length c0_2] 31 (0, 0)) (by (with_reducible repeat first | apply blk_drewN | apply blk_drew | apply blk_alloc); exact BK243.out) hb)
           have n5_ := Aside0.mk (blk_below (g := gb244) (o := .cells #[.int .i64 x245000_3, .slice none 0 0, .slice none 0 0] 31 (0, 0)) (by (with_reducible repeat first | apply blk_drewN | apply blk_drew | apply blk_alloc); exact BK244.out) hb)
           have n6_ := Aside0.mk (blk_below (g := gb249) (o := .cells #[.int .i64 x250000_78, .slice Ao112 x250001_3.length co112, .slice Ao113 x250002_3.length co113] 31 (0, 0)) (by (with_reducible repeat first | apply blk_drewN | apply blk_drew | apply blk_alloc); exact BK249.out) hb)
           have n7_ := Aside0.mk (blk_below (g := gb252) (o := .cells #[.int .i64 ((rd_T58 l1 x8_3).f2.f0), .int .i64 ((rd_T58 l1 x8_3).f2.f1), .int .i64 ((rd_T58 l1 x8_3).f2.f2)] 23 (0, 0)) (by (with_reducible repeat first | apply blk_drewN | apply blk_drew | apply blk_alloc); exact BK252.out) hb)
           have n8_ := Aside0.mk (below_step (by repeat (first | (with_reducible first | exact HB.out | apply below_alloc | apply pw_below_drewN | apply below_drew1 | refine below_set ?_ GE243.out | refine below_set ?_ GE244.out | refine below_set ?_ GE249.out | refine below_set ?_ GE252.out) | exact HB.out)) hb)
           clear HO_250001
           clear HO_250002
           clear HO282
           clear BK243
           clear BK244
           clear BK249
           clear BK252
           clear HB
           have HO_250001 := n0_
           have HO_250002 := n1_
           have HO282 := n2_
           have HO275 := n3_
           have BK243 := n4_
           have BK244 := n5_
           have BK249 := n6_
           have BK252 := n7_
           have HB := n8_
           clear n0_ n1_ n2_ n3_ n4_ n5_ n6_ n7_ n8_
           clear hb ho118
           obtain ⟨Ao120, co120, eo120⟩ := Kd.R_slice HO275.out
           (first | subst eo120 | (injection eo120 with f1_ f2_ f3_; have f4_ := f1_.symm; have f5_ := f3_.symm; clear f1_ f2_ f3_; subst f4_; subst f5_))
           refine hK.out _ _ ⟨(blk_cell BK249.out 0).trans rfl, (blk_cell BK249.out 1).trans rfl, (blk_cell BK249.out 2).trans rfl, (blk_cell BK243.out 0).trans rfl, (blk_cell BK243.out 1).trans rfl, (blk_cell BK243.out 2).trans rfl, ((HB.out.cell (World.block_lt_of_cell? w _ hw279_0)).trans hw279_0)⟩ (fun hHeld => ?_)
           clear hK K
           refine norm_ (a' := ?_) ?_ ?_
           rotate_left
           · show Act.put _ (some 143) _ = _
             simp only [Act.put, List.setIfInBounds_toArray, List.set_cons_zero, List.set_cons_succ, i64_w, i32_w]
             rfl
           refine one_ (i := 4) (N := some 144) #[true, true, true, true, true, true, true, true, true, true, true, true, true, true, true, false, false, false, false, false] rfl rfl (one_of HT_.out (by kernel_rfl)) (by decide) (fun K hK => ?_)
           refine Kd.R_append_rows_step (Kd.int .i64) (w0 := w) w.heap.size (by rfl) (.tmp 141) (.tmp 143) 29 3 (.int .i64 0) 8 rfl Try.underlying29 info3 rfl (by decide) (by omega) (.slice Ao112 x250001_3.length co112) x250001_3 y273 _ _ _ (fun k_ => some k_ ≠ (.slice Ao113 x250002_3.length co113 : Value).ownBlock ∧ some k_ ≠ (v281 : Value).ownBlock ∧ some k_ ≠ (.slice Ao120 y273.length co120 : Value).ownBlock) (fun _ => False) rfl rfl ?aO ?aR (fun _ _ h => h) (fun _ h => h.elim) ?aF ?aB ?aS ?aL ?_
           (case aR => repeat (first | exact (Kd.R_reads' HO275.out).2.2 | (with_reducible refine Kd.C_alloc ?_ _) | (with_reducible refine Kd.C_drewN ?_ _) | (with_reducible refine Kd.C_drew ?_)))
           (case aB => exact (by repeat (first | (with_reducible first | exact HB.out | apply below_alloc | apply pw_below_drewN | apply below_drew1 | refine below_set ?_ GE243.out | refine below_set ?_ GE244.out | refine below_set ?_ GE249.out | refine below_set ?_ GE252.out) | exact HB.out)))
           (case aF => exact (fun k_ hk => ⟨Kd.fresh' (Kd.R_lt (by (with_reducible repeat first | apply Kd.R_alloc | apply Kd.R_drewN | apply Kd.R_drew); exact HO_250002.out)) k_ hk, Kd.fresh' (Kd.R_lt (by (with_reducible repeat first | apply Kd.R_alloc | apply Kd.R_drewN | apply Kd.R_drew); exact HO282.out)) k_ hk, Kd.fresh' (Kd.R_lt (by (with_reducible repeat first | apply Kd.R_alloc | apply Kd.R_drewN | apply Kd.R_drew); exact HO275.out)) k_ hk⟩))
           (case aO => exact (by (with_reducible repeat first | apply Kd.R_alloc | apply Kd.R_drewN | apply Kd.R_drew); exact Kd.R_mono HO_250001.out (fun _ hk => ⟨hk.1.1, ⟨hk.1.2, hk.2⟩⟩)))
           (case aS => exact (below_size (by repeat (first | (with_reducible first | exact HB.out | apply below_alloc | apply pw_below_drewN | apply below_drew1 | refine below_set ?_ GE243.out | refine below_set ?_ GE244.out | refine below_set ?_ GE249.out | refine below_set ?_ GE252.out) | exact HB.out))))
           (case aL => have := LMc109.out; omega)
           intro v277 w119 ho hb hg hat
           rw [← Ny276.out] at ho
           have n0_ := Aside0.mk (Kd.R_after (ok := (fun k_ => some k_ ≠ (v281 : Value).ownBlock ∧ some k_ ≠ (.slice Ao120 y273.length co120 : Value).ownBlock)) (by (with_reducible repeat first | apply Kd.R_alloc | apply Kd.R_drewN | apply Kd.R_drew); exact Kd.R_mono HO_250002.out (fun _ hk => ⟨⟨hk.1.2, hk.2⟩, hk.1.1⟩)) hg hat)
           have n1_ := Aside0.mk (blk_grown (g := gb243) (o := .cells #[.int .i64 a0_0, .slice A0_1 l0_1.length c0_1, .slice (some ad279) l0_2.length c0_2] 31 (0, 0)) (by (with_reducible repeat first | apply blk_drewN | apply blk_drew | apply blk_alloc); exact BK243.out) hg (Kd.R_ne HO_250001.out BK243.out (by decide)))
           have n2_ := Aside0.mk (blk_grown (g := gb244) (o := .cells #[.int .i64 x245000_3, .slice none 0 0, .slice none 0 0] 31 (0, 0)) (by (with_reducible repeat first | apply blk_drewN | apply blk_drew | apply blk_alloc); exact BK244.out) hg (Kd.R_ne HO_250001.out BK244.out (by decide)))
           have n3_ := Aside0.mk (blk_grown (g := gb249) (o := .cells #[.int .i64 x250000_78, .slice Ao112 x250001_3.length co112, .slice Ao113 x250002_3.length co113] 31 (0, 0)) (by (with_reducible repeat first | apply blk_drewN | apply blk_drew | apply blk_alloc); exact BK249.out) hg (Kd.R_ne HO_250001.out BK249.out (by decide)))
           have n4_ := Aside0.mk (blk_grown (g := gb252) (o := .cells #[.int .i64 ((rd_T58 l1 x8_3).f2.f0), .int .i64 ((rd_T58 l1 x8_3).f2.f1), .int .i64 ((rd_T58 l1 x8_3).f2.f2)] 23 (0, 0)) (by (with_reducible repeat first | apply blk_drewN | apply blk_drew | apply blk_alloc); exact BK252.out) hg (Kd.R_ne HO_250001.out BK252.out (by decide)))
           have n5_ := Aside0.mk (Kd.R_after (ok := (fun k_ => some k_ ≠ (.slice Ao113 x250002_3.length co113 : Value).ownBlock ∧ some k_ ≠ (.slice Ao120 y273.length co120 : Value).ownBlock)) (by (with_reducible repeat first | apply Kd.R_alloc | apply Kd.R_drewN | apply Kd.R_drew); exact Kd.R_mono HO282.out (fun _ hk => ⟨⟨hk.1.2, hk.2⟩, hk.1.1.2⟩)) hg hat)
           have n6_ := Aside0.mk (Kd.R_after (ok := (fun k_ => some k_ ≠ (.slice Ao113 x250002_3.length co113 : Value).ownBlock ∧ some k_ ≠ (v281 : Value).ownBlock)) (by (with_reducible repeat first | apply Kd.R_alloc | apply Kd.R_drewN | apply Kd.R_drew); exact Kd.R_mono HO275.out (fun _ hk => ⟨⟨hk.1.2, hk.2⟩, hk.1.1.2⟩)) hg hat)
           have n7_ := Aside0.mk (hb)
           have n8_ := Aside0.mk (ho)
           clear HO_250002
           clear BK243
           clear BK244
           clear BK249
           clear BK252
           clear HO282
           clear HO275
           clear HB
           clear HO_250001
           have HO_250002 := n0_
           have BK243 := n1_
           have BK244 := n2_
           have BK249 := n3_
           have BK252 := n4_
           have HO282 := n5_
           have HO275 := n6_
           have HB := n7_
           have HO278 := n8_
           clear n0_ n1_ n2_ n3_ n4_ n5_ n6_ n7_ n8_
           clear ho hb hg hat
           refine hK.out _ _ ⟨(blk_cell BK249.out 0).trans rfl, (blk_cell BK249.out 1).trans rfl, (blk_cell BK249.out 2).trans rfl, (blk_cell BK243.out 0).trans rfl, (blk_cell BK243.out 1).trans rfl, (blk_cell BK243.out 2).trans rfl, ((HB.out.cell (World.block_lt_of_cell? w _ hw279_0)).trans hw279_0)⟩ (fun hHeld => ?_)
           clear hK K
           refine norm_ (a' := ?_) ?_ ?_
           rotate_left
           · show Act.put _ (some 144) _ = _
             simp only [Act.put, List.setIfInBounds_toArray, List.set_cons_zero, List.set_cons_succ, i64_w, i32_w]
             rfl
           refine pure_ (i := 16) (N := some 156) (v := ?_) (a' := ?_) #[true, true, true, true, true, true, true, true, true, true, true, true, true, true, true, false, true, false, false, false] rfl rfl (any_of HT_.out (by kernel_rfl)) (fun _ _ _ h => h) (Or.inl ⟨by rfl, ?_⟩) ?_ ?_
           rotate_left
           · intro w'; go_simp; with_reducible rfl
           rotate_left
           · simp only [Act.put, List.setIfInBounds_toArray, List.set_cons_zero, List.set_cons_succ, i64_w, i32_w]; rfl
           exact norm_ (by simp only [putAll, Act.put, List.setIfInBounds_toArray, List.set_cons_zero, List.set_cons_succ]) (hCont (.slice Ao120 y273.length co120, v277, v281) _ ⟨hHeld, (by (with_reducible repeat first | apply Kd.R_alloc | apply Kd.R_drewN | apply Kd.R_drew); exact Kd.R_mono HO275.out (fun _ hk => ⟨hk.2, ⟨hk.1.2, hk.1.1⟩⟩)), (by (with_reducible repeat first | apply Kd.R_alloc | apply Kd.R_drewN | apply Kd.R_drew); exact Kd.R_mono HO278.out (fun _ hk => ⟨hk.2.2, ⟨hk.2.1, hk.1⟩⟩)), (by (with_reducible repeat first | apply Kd.R_alloc | apply Kd.R_drewN | apply Kd.R_drew); exact Kd.R_mono HO282.out (fun _ hk => ⟨hk.1.2, ⟨hk.2, hk.1.1⟩⟩)), (by (with_reducible repeat first | apply Kd.R_alloc | apply Kd.R_drewN | apply Kd.R_drew); exact Kd.R_mono HO_250002.out (fun _ hk => ⟨hk.1.2, ⟨hk.2, hk.1.1⟩⟩)), (by (with_reducible repeat first | apply blk_drewN | apply blk_drew | apply blk_alloc); exact BK243.out), (by (with_reducible repeat first | apply blk_drewN | apply blk_drew | apply blk_alloc); exact BK244.out), (by (with_reducible repeat first | apply blk_drewN | apply blk_drew | apply blk_alloc); exact BK249.out), (by (with_reducible repeat first | apply blk_drewN | apply blk_drew | apply blk_alloc); exact BK252.out), (by repeat (first | (with_reducible first | exact HB.out | apply below_alloc | apply pw_below_drewN | apply below_drew1 | refine below_set ?_ GE243.out | refine below_set ?_ GE244.out | refine below_set ?_ GE249.out | refine below_set ?_ GE252.out) | exact HB.out))⟩)
         rintro ⟨v274, v277, v281⟩ w121 ⟨hS_, h0_, h1_, h2_, h3_, h4_, h5_, h6_, h7_, h8_⟩
         have n0_ : Aside0 (Kd.R (Kd.int .i64) 3 w121 w.heap.size (fun k_ => some k_ ≠ (v277 : Value).ownBlock ∧ some k_ ≠ (v281 : Value).ownBlock ∧ some k_ ≠ (.slice Ao113 x250002_3.length co113 : Value).ownBlock) v274 y273) := ⟨h0_⟩
         have n1_ : Aside0 (Kd.R (Kd.int .i64) 3 w121 w.heap.size (fun k_ => some k_ ≠ (v274 : Value).ownBlock ∧ some k_ ≠ (v281 : Value).ownBlock ∧ some k_ ≠ (.slice Ao113 x250002_3.length co113 : Value).ownBlock) v277 y276) := ⟨h1_⟩
         have n2_ : Aside0 (Kd.R (Kd.int .i64) 3 w121 w.heap.size (fun k_ => some k_ ≠ (v274 : Value).ownBlock ∧ some k_ ≠ (v277 : Value).ownBlock ∧ some k_ ≠ (.slice Ao113 x250002_3.length co113 : Value).ownBlock) v281 y280) := ⟨h2_⟩
         have n3_ : Aside0 (Kd.R (Kd.int .i64) 3 w121 w.heap.size (fun k_ => some k_ ≠ (v274 : Value).ownBlock ∧ some k_ ≠ (v277 : Value).ownBlock ∧ some k_ ≠ (v281 : Value).ownBlock) (.slice Ao113 x250002_3.length co113) x250002_3) := ⟨h3_⟩
         have n4_ : Aside0 (w121.heap[gb243]? = some (.cells #[.int .i64 a0_0, .slice A0_1 l0_1.length c0_1, .slice (some ad279) l0_2.length c0_2] 31 (0, 0))) := ⟨h4_⟩
         have n5_ : Aside0 (w121.heap[gb244]? = some (.cells #[.int .i64 x245000_3, .slice none 0 0, .slice none 0 0] 31 (0, 0))) := ⟨h5_⟩
         have n6_ : Aside0 (w121.heap[gb249]? = some (.cells #[.int .i64 x250000_78, .slice Ao112 x250001_3.length co112, .slice Ao113 x250002_3.length co113] 31 (0, 0))) := ⟨h6_⟩
         have n7_ : Aside0 (w121.heap[gb252]? = some (.cells #[.int .i64 ((rd_T58 l1 x8_3).f2.f0), .int .i64 ((rd_T58 l1 x8_3).f2.f1), .int .i64 ((rd_T58 l1 x8_3).f2.f2)] 23 (0, 0))) := ⟨h7_⟩
         have n8_ : Aside0 (Below w.heap.size w w121) := ⟨h8_⟩
         clear HO_250001
         clear HO_250002
         clear BK243
         clear BK244
         clear BK249
         clear BK252
         clear HB
         clear h0_ h1_ h2_ h3_ h4_ h5_ h6_ h7_ h8_
         have HO275 := n0_
         have HO278 := n1_
         have HO282 := n2_
         have HO_250002 := n3_
         have BK243 := n4_
         have BK244 := n5_
         have BK249 := n6_
         have BK252 := n7_
         have HB := n8_
         clear n0_ n1_ n2_ n3_ n4_ n5_ n6_ n7_ n8_
         have hHeld : w121.cell? ⟨gb249, 0, none⟩ = some (.int .i64 x250000_78) ∧ w121.cell? ⟨gb249, 1, none⟩ = some (.slice Ao112 x250001_3.length co112) ∧ w121.cell? ⟨gb249, 2, none⟩ = some (.slice Ao113 x250002_3.length co113) ∧ w121.cell? ⟨gb243, 0, none⟩ = some (.int .i64 a0_0) ∧ w121.cell? ⟨gb243, 1, none⟩ = some (.slice A0_1 l0_1.length c0_1) ∧ w121.cell? ⟨gb243, 2, none⟩ = some (.slice (some ad279) l0_2.length c0_2) ∧ w121.cell? (ad279.add (x8_3).toNat) = some (.int .i64 (rd l0_2 x8_3)) := hS_
         obtain ⟨Ao123, co123, eo123⟩ := Kd.R_slice HO282.out
         (first | subst eo123 | (injection eo123 with f1_ f2_ f3_; have f4_ := f1_.symm; have f5_ := f3_.symm; clear f1_ f2_ f3_; subst f4_; subst f5_))
         refine norm_ (a' := ?_) ?_ ?_
         rotate_left
         · simp only [putAll, Act.put, List.setIfInBounds_toArray, List.set_cons_zero, List.set_cons_succ]
           rfl
         refine one_ (i := 15) (N := some 155) #[true, true, true, true, true, true, true, true, true, true, true, true, true, true, true, true, true, false, false, false] rfl rfl (one_of HT_.out (by kernel_rfl)) (by decide) (fun K hK => ?_)
         refine Kd.R_append_rows_step (Kd.int .i64) (w0 := w) w.heap.size (by rfl) (.tmp 146) (.tmp 154) 29 3 (.int .i64 0) 8 rfl Try.underlying29 info3 rfl (by decide) (by omega) (.slice Ao113 x250002_3.length co113) x250002_3 y280 _ _ _ (fun k_ => some k_ ≠ (v274 : Value).ownBlock ∧ some k_ ≠ (v277 : Value).ownBlock ∧ some k_ ≠ (.slice Ao123 y280.length co123 : Value).ownBlock) (fun _ => False) rfl rfl ?aO ?aR (fun _ _ h => h) (fun _ h => h.elim) ?aF ?aB ?aS ?aL ?_
         (case aR => repeat (first | exact (Kd.R_reads' HO282.out).2.2 | (with_reducible refine Kd.C_alloc ?_ _) | (with_reducible refine Kd.C_drewN ?_ _) | (with_reducible refine Kd.C_drew ?_)))
         (case aB => exact (by repeat (first | (with_reducible first | exact HB.out | apply below_alloc | apply pw_below_drewN | apply below_drew1 | refine below_set ?_ GE243.out | refine below_set ?_ GE244.out | refine below_set ?_ GE249.out | refine below_set ?_ GE252.out) | exact HB.out)))
         (case aF => exact (fun k_ hk => ⟨Kd.fresh' (Kd.R_lt (by (with_reducible repeat first | apply Kd.R_alloc | apply Kd.R_drewN | apply Kd.R_drew); exact HO275.out)) k_ hk, Kd.fresh' (Kd.R_lt (by (with_reducible repeat first | apply Kd.R_alloc | apply Kd.R_drewN | apply Kd.R_drew); exact HO278.out)) k_ hk, Kd.fresh' (Kd.R_lt (by (with_reducible repeat first | apply Kd.R_alloc | apply Kd.R_drewN | apply Kd.R_drew); exact HO282.out)) k_ hk⟩))
         (case aO => exact (by (with_reducible repeat first | apply Kd.R_alloc | apply Kd.R_drewN | apply Kd.R_drew); exact HO_250002.out))
         (case aS => exact (below_size (by repeat (first | (with_reducible first | exact HB.out | apply below_alloc | apply pw_below_drewN | apply below_drew1 | refine below_set ?_ GE243.out | refine below_set ?_ GE244.out | refine below_set ?_ GE249.out | refine below_set ?_ GE252.out) | exact HB.out))))
         (case aL => have := LMc111.out; omega)
         intro v284 w122 ho hb hg hat
         rw [← Ny283.out] at ho
         have n0_ := Aside0.mk (blk_grown (g := gb243) (o := .cells #[.int .i64 a0_0, .slice A0_1 l0_1.length c0_1, .slice (some ad279) l0_2.length c0_2] 31 (0, 0)) (by (with_reducible repeat first | apply blk_drewN | apply blk_drew | apply blk_alloc); exact BK243.out) hg (Kd.R_ne HO_250002.out BK243.out (by decide)))
         have n1_ := Aside0.mk (blk_grown (g := gb244) (o := .cells #[.int .i64 x245000_3, .slice none 0 0, .slice none 0 0] 31 (0, 0)) (by (with_reducible repeat first | apply blk_drewN | apply blk_drew | apply blk_alloc); exact BK244.out) hg (Kd.R_ne HO_250002.out BK244.out (by decide)))
         have n2_ := Aside0.mk (blk_grown (g := gb249) (o := .cells #[.int .i64 x250000_78, .slice Ao112 x250001_3.length co112, .slice Ao113 x250002_3.length co113] 31 (0, 0)) (by (with_reducible repeat first | apply blk_drewN | apply blk_drew | apply blk_alloc); exact BK249.out) hg (Kd.R_ne HO_250002.out BK249.out (by decide)))
         have n3_ := Aside0.mk (blk_grown (g := gb252) (o := .cells #[.int .i64 ((rd_T58 l1 x8_3).f2.f0), .int .i64 ((rd_T58 l1 x8_3).f2.f1), .int .i64 ((rd_T58 l1 x8_3).f2.f2)] 23 (0, 0)) (by (with_reducible repeat first | apply blk_drewN | apply blk_drew | apply blk_alloc); exact BK252.out) hg (Kd.R_ne HO_250002.out BK252.out (by decide)))
         have n4_ := Aside0.mk (Kd.R_after (ok := (fun k_ => some k_ ≠ (v277 : Value).ownBlock ∧ some k_ ≠ (.slice Ao123 y280.length co123 : Value).ownBlock)) (by (with_reducible repeat first | apply Kd.R_alloc | apply Kd.R_drewN | apply Kd.R_drew); exact Kd.R_mono HO275.out (fun _ hk => ⟨⟨hk.1, hk.2.1⟩, hk.2.2⟩)) hg hat)
         have n5_ := Aside0.mk (Kd.R_after (ok := (fun k_ => some k_ ≠ (v274 : Value).ownBlock ∧ some k_ ≠ (.slice Ao123 y280.length co123 : Value).ownBlock)) (by (with_reducible repeat first | apply Kd.R_alloc | apply Kd.R_drewN | apply Kd.R_drew); exact Kd.R_mono HO278.out (fun _ hk => ⟨⟨hk.1, hk.2.1⟩, hk.2.2⟩)) hg hat)
         have n6_ := Aside0.mk (Kd.R_after (ok := (fun k_ => some k_ ≠ (v274 : Value).ownBlock ∧ some k_ ≠ (v277 : Value).ownBlock)) (by (with_reducible repeat first | apply Kd.R_alloc | apply Kd.R_drewN | apply Kd.R_drew); exact Kd.R_mono HO282.out (fun _ hk => ⟨⟨hk.1, hk.2.1⟩, hk.2.2⟩)) hg hat)
         have n7_ := Aside0.mk (hb)
         have n8_ := Aside0.mk (ho)
         clear BK243
         clear BK244
         clear BK249
         clear BK252
         clear HO275
         clear HO278
         clear HO282
         clear HB
         clear HO_250002
         have BK243 := n0_
         have BK244 := n1_
         have BK249 := n2_
         have BK252 := n3_
         have HO275 := n4_
         have HO278 := n5_
         have HO282 := n6_
         have HB := n7_
         have HO285 := n8_
         clear n0_ n1_ n2_ n3_ n4_ n5_ n6_ n7_ n8_
         clear ho hb hg hat
         obtain ⟨Ao124, co124, eo124⟩ := Kd.R_slice HO278.out
         (first | subst eo124 | (injection eo124 with f1_ f2_ f3_; have f4_ := f1_.symm; have f5_ := f3_.symm; clear f1_ f2_ f3_; subst f4_; subst f5_))
         obtain ⟨Ao126, co126, eo126⟩ := Kd.R_slice HO285.out
         (first | subst eo126 | (injection eo126 with f1_ f2_ f3_; have f4_ := f1_.symm; have f5_ := f3_.symm; clear f1_ f2_ f3_; subst f4_; subst f5_))
         refine hK.out _ _ ⟨(blk_cell BK249.out 0).trans rfl, (blk_cell BK249.out 1).trans rfl, (blk_cell BK249.out 2).trans rfl, (blk_cell BK243.out 0).trans rfl, (blk_cell BK243.out 1).trans rfl, (blk_cell BK243.out 2).trans rfl, ((HB.out.cell (World.block_lt_of_cell? w _ hw279_0)).trans hw279_0)⟩ (fun hHeld => ?_)
         clear hK K
         refine norm_ (a' := ?_) ?_ ?_
         rotate_left
         · show Act.put _ (some 155) _ = _
           simp only [Act.put, List.setIfInBounds_toArray, List.set_cons_zero, List.set_cons_succ, i64_w, i32_w]
           rfl
         refine last_ (i := 17) (N := none) #[true, true, true, true, true, true, true, true, true, true, true, true, true, true, true, true, true, true, false, false] rfl rfl (one_of HT_.out (by kernel_rfl)) (by decide) (fun K hK => ?_)
         have hs125 : w122.cell? ⟨gb249, 1, none⟩ = some (.slice Ao112 x250001_3.length co112) := (blk_cell BK249.out 1).trans rfl
         have hfs125 := blk_frozen BK249.out 1
         have hns125_0 := NB243_249.out
         have hns125_1 := NB244_249.out
         have hns125_3 := NB252_249.out
         have hms125_0 := NB249_243.out
         have hms125_1 := NB249_244.out
         have hms125_3 := NB249_252.out
         refine skip_ (w1 := ?_) (by rfl) rfl ?_ ?_
         rotate_left
         · go_simp
           rfl
         refine hK.out _ _ ?_
         clear hK K
         refine pure_ (i := 18) (N := some 157) (v := ?_) (a' := ?_) #[true, true, true, true, true, true, true, true, true, true, true, true, true, true, true, true, true, true, true, false] rfl rfl (any_of HT_.out (by kernel_rfl)) (fun _ _ _ h => h) (Or.inl ⟨by rfl, ?_⟩) ?_ ?_
         rotate_left
         · intro w'; go_simp; with_reducible rfl
         rotate_left
         · simp only [Act.put, List.setIfInBounds_toArray, List.set_cons_zero, List.set_cons_succ, i64_w, i32_w]; rfl
         refine last_ (i := 19) (N := none) #[true, true, true, true, true, true, true, true, true, true, true, true, true, true, true, true, true, true, true, true] rfl rfl (one_of HT_.out (by kernel_rfl)) (by decide) (fun K hK => ?_)
         have hs127 : w122.cell? ⟨gb249, 2, none⟩ = some (.slice Ao113 x250002_3.length co113) := (blk_cell BK249.out 2).trans rfl
         have hfs127 := blk_frozen BK249.out 2
         have hns127_0 := NB243_249.out
         have hns127_1 := NB244_249.out
         have hns127_3 := NB252_249.out
         have hms127_0 := NB249_243.out
         have hms127_1 := NB249_244.out
         have hms127_3 := NB249_252.out
         refine skip_ (w1 := ?_) (by rfl) rfl ?_ ?_
         rotate_left
         · go_simp
           rfl
         refine hK.out _ _ ?_
         clear hK K
         refine done_ (done_of HT_.out (by kernel_rfl)) ?_
         try go_wp2
         go_roundg kj78
         case measure => have := HJ2.out; have := HK2.out; have := HK3.out; have := HJ35.out; have := HJ47.out; have := HJ71.out; have := HJ78.out; omega
         case rel => exact ⟨(wrap64 (x8_3 + 1)), (x245000_3), (x250000_78), (y276), (y283), (.slice Ao124 y276.length co124), (.slice Ao126 y283.length co126), (by first | rfl | (simp; done) | (simp [*]; done)), H', ⟨by have := HJ2.out; have := HK2.out; have := HK3.out; have := HJ35.out; have := HJ47.out; have := HJ71.out; have := HJ78.out; omega⟩, ⟨by (with_reducible repeat first | apply Kd.R_alloc | apply Kd.R_drewN | apply Kd.R_drew); exact Kd.R_mono (Kd.R_far (p := ⟨gb249, 2, none⟩) (Kd.R_far (p := ⟨gb249, 1, none⟩) (Kd.R_types HO278.out BK249.out (by decide)) (fun _ hk => hk.2) (.slice Ao124 y276.length co124)) (fun _ hk => hk.2) (.slice Ao126 y283.length co126)) (fun _ hk => hk.1.2)⟩, ⟨by (with_reducible repeat first | apply Kd.R_alloc | apply Kd.R_drewN | apply Kd.R_drew); exact Kd.R_mono (Kd.R_far (p := ⟨gb249, 2, none⟩) (Kd.R_far (p := ⟨gb249, 1, none⟩) (Kd.R_types HO285.out BK249.out (by decide)) (fun _ hk => hk.2) (.slice Ao124 y276.length co124)) (fun _ hk => hk.2) (.slice Ao126 y283.length co126)) (fun _ hk => hk.1.2.1)⟩, ⟨by (with_reducible repeat first | apply blk_drewN | apply blk_drew | apply blk_alloc); refine blk_far ?_ NB243_249.out _; (with_reducible repeat first | apply blk_drewN | apply blk_drew | apply blk_alloc); refine blk_far ?_ NB243_249.out _; (with_reducible repeat first | apply blk_drewN | apply blk_drew | apply blk_alloc); exact BK243.out⟩, ⟨by (with_reducible repeat first | apply blk_drewN | apply blk_drew | apply blk_alloc); refine blk_far ?_ NB244_249.out _; (with_reducible repeat first | apply blk_drewN | apply blk_drew | apply blk_alloc); refine blk_far ?_ NB244_249.out _; (with_reducible repeat first | apply blk_drewN | apply blk_drew | apply blk_alloc); exact BK244.out⟩, ⟨by (with_reducible repeat first | apply blk_drewN | apply blk_drew | apply blk_alloc); refine blk_put (cs := #[.int .i64 x250000_78, .slice Ao124 y276.length co124, .slice Ao113 x250002_3.length co113]) ?_ 2 _ rfl; (with_reducible repeat first | apply blk_drewN | apply blk_drew | apply blk_alloc); refine blk_put (cs := #[.int .i64 x250000_78, .slice Ao112 x250001_3.length co112, .slice Ao113 x250002_3.length co113]) ?_ 1 _ rfl; (with_reducible repeat first | apply blk_drewN | apply blk_drew | apply blk_alloc); exact BK249.out⟩, ⟨by repeat (first | (with_reducible first | exact HB.out | apply below_alloc | apply pw_below_drewN | apply below_drew1 | refine below_set ?_ GE243.out | refine below_set ?_ GE244.out | refine below_set ?_ GE249.out | refine below_set ?_ GE252.out) | exact HB.out)⟩⟩

end Go.Proofs.Yticjlkommabcjaa.PS
