-- Printed by wip/qprint.py of this repository, over the kit's print, out of the translation. Not trusted: Lean checks it.
import Derived.Test.YtopnopepcpepbaaPGx0
import Derived.Test.YtopnopepcpepbaaPGx6
namespace Go.Proofs.Ytopnopepcpepbaa.PG
open Go.RowKit Go.Proofs.YtopnopepcpepbaaW.PrintWords Go.Proofs.YtopnopepcpepbaaW.PrintLast Go.Proofs.YtopnopepcpepbaaW.PrintMore
attribute [local go_sem] max2_int min2_int max_two min_two max_three min_three max_four min_four   -- for this text's walks alone
set_option linter.unusedVariables false
set_option linter.unusedSimpArgs false
set_option maxRecDepth 100000

/-! ### quadratref22_where: function 43 -/
def quadratref22_where.l0 : Nat → Int → Int → Int → Bool → Bool → Int → Int → Int → Int → Int → Option (Int)
  | 0, _, _, _, _, _, _, _, _, _, _ => none
  | k + 1, x0, x1, x4, x5, x13, x14, x15, x146000, x146001, x146002 => if x14 < x15 then ((quadratref22_value.f x0 x1 x146000 x146001 x146002 (wrap64 (Int.tdiv (wrap64 (x14 + x15)) 2))).bind fun t146 => (if x13 = true then (if t146 > x4 then (quadratref22_where.l0 k x0 x1 x4 x5 x13 x14 (wrap64 (Int.tdiv (wrap64 (x14 + x15)) 2)) x146000 x146001 x146002) else (if t146 = x4 then (if x5 = true then (quadratref22_where.l0 k x0 x1 x4 x5 x13 (wrap64 ((wrap64 (Int.tdiv (wrap64 (x14 + x15)) 2)) + 1)) x15 x146000 x146001 x146002) else (quadratref22_where.l0 k x0 x1 x4 x5 x13 x14 (wrap64 (Int.tdiv (wrap64 (x14 + x15)) 2)) x146000 x146001 x146002)) else (quadratref22_where.l0 k x0 x1 x4 x5 x13 (wrap64 ((wrap64 (Int.tdiv (wrap64 (x14 + x15)) 2)) + 1)) x15 x146000 x146001 x146002))) else (if t146 < x4 then (quadratref22_where.l0 k x0 x1 x4 x5 x13 x14 (wrap64 (Int.tdiv (wrap64 (x14 + x15)) 2)) x146000 x146001 x146002) else (if t146 = x4 then (if x5 = true then (quadratref22_where.l0 k x0 x1 x4 x5 x13 (wrap64 ((wrap64 (Int.tdiv (wrap64 (x14 + x15)) 2)) + 1)) x15 x146000 x146001 x146002) else (quadratref22_where.l0 k x0 x1 x4 x5 x13 x14 (wrap64 (Int.tdiv (wrap64 (x14 + x15)) 2)) x146000 x146001 x146002)) else (quadratref22_where.l0 k x0 x1 x4 x5 x13 (wrap64 ((wrap64 (Int.tdiv (wrap64 (x14 + x15)) 2)) + 1)) x15 x146000 x146001 x146002))))) else (some x14)
def quadratref22_where.f (k : Nat) (a0 : Int) (a1 : Int) (a2_0 : Int) (a2_1 : Int) (a2_2 : Int) (a3 : Int) (a4 : Int) (a5 : Bool) : Option (Int) := quadratref22_where.l0 k a0 a1 a4 a5 (decide ((wrap64 (a0 * a2_2)) > 0)) 0 a3 a2_0 a2_1 a2_2
theorem quadratref22_where.mono_l : ∀ k, (∀ y0 y1 y2 y3 y4 y5 y6 y7 y8 y9, LeO (quadratref22_where.l0 k y0 y1 y2 y3 y4 y5 y6 y7 y8 y9) (quadratref22_where.l0 (k + 1) y0 y1 y2 y3 y4 y5 y6 y7 y8 y9))
  | 0 => fun _ _ _ _ _ _ _ _ _ _ r h => by simp [quadratref22_where.l0] at h
  | k + 1 => by
    have ih0 := quadratref22_where.mono_l k
    · intro y0 y1 y2 y3 y4 y5 y6 y7 y8 y9
      unfold quadratref22_where.l0
      repeat' first
      | (with_reducible exact ih0 _ _ _ _ _ _ _ _ _ _)
      | (with_reducible exact LeO.refl _)
      | (with_reducible exact LeO.none _)
      | (with_reducible refine LeO.ite ?_ ?_)
      | (with_reducible refine LeO.bind ?_ (fun _ => ?_))
      | exact ih0 _ _ _ _ _ _ _ _ _ _
      | exact LeO.none _
      | refine LeO.ite ?_ ?_
      | refine LeO.bind ?_ (fun _ => ?_)
theorem quadratref22_where.mono : ∀ a0 a1 a2 a3 a4 a5 a6 a7 k, LeO (quadratref22_where.f k a0 a1 a2 a3 a4 a5 a6 a7) (quadratref22_where.f (k + 1) a0 a1 a2 a3 a4 a5 a6 a7) := by
  intro a0 a1 a2 a3 a4 a5 a6 a7 k
  have ih0 := quadratref22_where.mono_l k
  unfold quadratref22_where.f
  repeat' first
      | (with_reducible exact ih0 _ _ _ _ _ _ _ _ _ _)
      | (with_reducible exact LeO.refl _)
      | (with_reducible exact LeO.none _)
      | (with_reducible refine LeO.ite ?_ ?_)
      | (with_reducible refine LeO.bind ?_ (fun _ => ?_))
      | exact ih0 _ _ _ _ _ _ _ _ _ _
      | exact LeO.none _
      | refine LeO.ite ?_ ?_
      | refine LeO.bind ?_ (fun _ => ?_)
set_option maxHeartbeats 8000000 in
set_option maxRecDepth 100000 in
theorem quadratref22_where.calls (k : Nat) (a0 : Int) (a1 : Int) (a2_0 : Int) (a2_1 : Int) (a2_2 : Int) (a3 : Int) (a4 : Int) (a5 : Bool) (r : Int) (w : World) (h : quadratref22_where.f k a0 a1 a2_0 a2_1 a2_2 a3 a4 a5 = some r) :
    Calls Try.prog 43 #[.int .i64 a0, .int .i64 a1, .agg #[.int .i64 a2_0, .int .i64 a2_1, .int .i64 a2_2], .int .i64 a3, .int .i64 a4, .bool a5] w fun e w' => e = .returned (.int .i64 r) ∧ Below w.heap.size w w' := by
  have hu25 := Try.underlying25
  have HB := Aside0.mk (Below.refl w.heap.size w)
  have H : (quadratref22_where.l0 k a0 a1 a4 a5 (decide ((wrap64 (a0 * a2_2)) > 0)) 0 a3 a2_0 a2_1 a2_2) = some r := h
  clear h
  have H' := Aside0.mk H
  clear H
  go_enter Try.func43, Try.ntmps43
  go_wp2_with (first | ((with_reducible refine gate_dst (N := 8) rfl ?_); refine box_event ?hg (N := 8) ?hd (cs := #[.int .i64 a2_0, .int .i64 a2_1, .int .i64 a2_2]) (t := 25) ?hr ?_; (case hd => rfl); (case hg => rfl); (case hr => first | (go_simp; done) | (go_simp; rfl)); intro gb145 hg w7 hbox hb; have n0_ := Aside0.mk (below_step (by repeat (first | (with_reducible first | exact HB.out | apply below_alloc | apply pw_below_drewN | apply below_drew1) | exact HB.out)) hb); have n1_ := Aside0.mk (hbox); have n2_ := Aside0.mk ((by rw [hg]; exact (below_size (by repeat (first | (with_reducible first | exact HB.out | apply below_alloc | apply pw_below_drewN | apply below_drew1) | exact HB.out))) : w.heap.size ≤ gb145)); have n3_ := Aside0.mk ((by rw [hg]; exact (below_size (by repeat (first | (with_reducible first | exact HB.out | apply below_alloc | apply pw_below_drewN | apply below_drew1) | exact HB.out))) : w.heap.size ≤ gb145)); clear HB; have HB := n0_; have BK145 := n1_; have GW145 := n2_; have GE145 := n3_; clear n0_ n1_ n2_ n3_; clear hb hbox hg; have hcz8_0 : w7.cell? ⟨gb145, 0, none⟩ = some (.int .i64 a2_0) := (blk_cell BK145.out 0).trans rfl; have hcz8_1 : w7.cell? ⟨gb145, 1, none⟩ = some (.int .i64 a2_1) := (blk_cell BK145.out 1).trans rfl; have hcz8_2 : w7.cell? ⟨gb145, 2, none⟩ = some (.int .i64 a2_2) := (blk_cell BK145.out 2).trans rfl; have hfz8_0 := blk_frozen BK145.out 0; have hfz8_1 := blk_frozen BK145.out 1; have hfz8_2 := blk_frozen BK145.out 2))
  generalize hgb9 : (decide ((wrap64 (a0 * a2_2)) > 0) : Bool) = gb9 at H' ⊢
  clear hgb9
  go_loopg [14, 15] k (fun kq v14 v15 w' => ∃ (x14_1 : Int) (x15_1 : Int), v14 = .int .i64 x14_1 ∧ v15 = .int .i64 x15_1 ∧ Aside0 (quadratref22_where.l0 kq a0 a1 a4 a5 gb9 x14_1 x15_1 a2_0 a2_1 a2_2 = some r) ∧ Aside0 (kq ≤ k) ∧ Aside0 (w'.heap[gb145]? = some (.cells #[.int .i64 a2_0, .int .i64 a2_1, .int .i64 a2_2] 25 (0, 0))) ∧ Aside0 (Below w.heap.size w w'))
  case atStart => exact ⟨(0), (a3), (by first | rfl | (simp; done) | (simp [*]; done)), (by first | rfl | (simp; done) | (simp [*]; done)), H', ⟨Nat.le_refl _⟩, ⟨by (with_reducible repeat (first | refine blk_drewN ?_ _ | refine blk_drew ?_ | refine blk_alloc ?_ _)); exact BK145.out⟩, ⟨by repeat (first | (with_reducible first | exact HB.out | apply below_alloc | apply pw_below_drewN | apply below_drew1 | refine below_set ?_ GE145.out) | exact HB.out)⟩⟩
  case round =>
    clear H'
    try clear p2
    try clear c4
    try clear p6
    try clear hcz8_0
    try clear hcz8_1
    try clear hcz8_2
    try clear hfz8_0
    try clear hfz8_1
    try clear hfz8_2
    obtain ⟨x14_1, x15_1, rfl, rfl, HA, HK1, BK145, HB⟩ := hrel
    cases gk with
    | zero => exact absurd HA.out (by simp [quadratref22_where.l0])
    | succ k1 =>
      have H := HA.out
      clear HA
      simp only [quadratref22_where.l0] at H
      by_cases c10 : x14_1 < x15_1
      · rw [if_pos c10] at H
        have c10b0 : decide (x14_1 < x15_1) = true := decide_eq_true c10
        clear c10
        replace H := Option.bind_eq_some_iff.mp H
        obtain ⟨t146, A110, H⟩ := H
        replace H : (if gb9 = true then (if t146 > a4 then (quadratref22_where.l0 k1 a0 a1 a4 a5 gb9 x14_1 (wrap64 (Int.tdiv (wrap64 (x14_1 + x15_1)) 2)) a2_0 a2_1 a2_2) else (if t146 = a4 then (if a5 = true then (quadratref22_where.l0 k1 a0 a1 a4 a5 gb9 (wrap64 ((wrap64 (Int.tdiv (wrap64 (x14_1 + x15_1)) 2)) + 1)) x15_1 a2_0 a2_1 a2_2) else (quadratref22_where.l0 k1 a0 a1 a4 a5 gb9 x14_1 (wrap64 (Int.tdiv (wrap64 (x14_1 + x15_1)) 2)) a2_0 a2_1 a2_2)) else (quadratref22_where.l0 k1 a0 a1 a4 a5 gb9 (wrap64 ((wrap64 (Int.tdiv (wrap64 (x14_1 + x15_1)) 2)) + 1)) x15_1 a2_0 a2_1 a2_2))) else (if t146 < a4 then (quadratref22_where.l0 k1 a0 a1 a4 a5 gb9 x14_1 (wrap64 (Int.tdiv (wrap64 (x14_1 + x15_1)) 2)) a2_0 a2_1 a2_2) else (if t146 = a4 then (if a5 = true then (quadratref22_where.l0 k1 a0 a1 a4 a5 gb9 (wrap64 ((wrap64 (Int.tdiv (wrap64 (x14_1 + x15_1)) 2)) + 1)) x15_1 a2_0 a2_1 a2_2) else (quadratref22_where.l0 k1 a0 a1 a4 a5 gb9 x14_1 (wrap64 (Int.tdiv (wrap64 (x14_1 + x15_1)) 2)) a2_0 a2_1 a2_2)) else (quadratref22_where.l0 k1 a0 a1 a4 a5 gb9 (wrap64 ((wrap64 (Int.tdiv (wrap64 (x14_1 + x15_1)) 2)) + 1)) x15_1 a2_0 a2_1 a2_2)))) = some r := H
        have A11 := Aside0.mk A110
        clear A110
        by_cases c12 : gb9 = true
        · subst c12
          have H1 : (if t146 > a4 then (quadratref22_where.l0 k1 a0 a1 a4 a5 true x14_1 (wrap64 (Int.tdiv (wrap64 (x14_1 + x15_1)) 2)) a2_0 a2_1 a2_2) else (if t146 = a4 then (if a5 = true then (quadratref22_where.l0 k1 a0 a1 a4 a5 true (wrap64 ((wrap64 (Int.tdiv (wrap64 (x14_1 + x15_1)) 2)) + 1)) x15_1 a2_0 a2_1 a2_2) else (quadratref22_where.l0 k1 a0 a1 a4 a5 true x14_1 (wrap64 (Int.tdiv (wrap64 (x14_1 + x15_1)) 2)) a2_0 a2_1 a2_2)) else (quadratref22_where.l0 k1 a0 a1 a4 a5 true (wrap64 ((wrap64 (Int.tdiv (wrap64 (x14_1 + x15_1)) 2)) + 1)) x15_1 a2_0 a2_1 a2_2))) = some r := by rw [if_pos rfl] at H; exact H
          clear H
          have H := H1
          clear H1
          by_cases c13 : t146 > a4
          · rw [if_pos c13] at H
            have c13b0 : decide (a4 < t146) = true := decide_eq_true c13
            clear c13
            have H' := Aside0.mk H
            clear H
            have hcz14_0 : wr.cell? ⟨gb145, 0, none⟩ = some (.int .i64 a2_0) := (blk_cell BK145.out 0).trans rfl
            have hcz14_1 : wr.cell? ⟨gb145, 1, none⟩ = some (.int .i64 a2_1) := (blk_cell BK145.out 1).trans rfl
            have hcz14_2 : wr.cell? ⟨gb145, 2, none⟩ = some (.int .i64 a2_2) := (blk_cell BK145.out 2).trans rfl
            have hfz14_0 := blk_frozen BK145.out 0
            have hfz14_1 := blk_frozen BK145.out 1
            have hfz14_2 := blk_frozen BK145.out 2
            go_wp2_with (first | ((with_reducible refine gate_callee (f := 34) rfl ?_); refine goesL_ (some 36) rfl rfl Try.func34 (by kernel_rfl) rfl #[.int .i64 a0, .int .i64 a1, .agg #[.int .i64 a2_0, .int .i64 a2_1, .int .i64 a2_2], .int .i64 (wrap64 (Int.tdiv (wrap64 (x14_1 + x15_1)) 2))] rfl (by (try simp only [List.map_toArray, List.map_cons, List.map_nil]); first | done | rfl | (simp only [List.length_drop, List.length_take]; rfl)) ?_; (with_reducible refine (quadratref22_value.calls a0 a1 a2_0 a2_1 a2_2 (wrap64 (Int.tdiv (wrap64 (x14_1 + x15_1)) 2)) t146 _ A11.out).mono ?_); rintro e w15 ⟨rfl, hb⟩; refine ⟨_, rfl, ?_⟩; have n0_ := Aside0.mk (blk_below (g := gb145) (o := .cells #[.int .i64 a2_0, .int .i64 a2_1, .int .i64 a2_2] 25 (0, 0)) (by (with_reducible repeat (first | refine blk_drewN ?_ _ | refine blk_drew ?_ | refine blk_alloc ?_ _)); exact BK145.out) hb); have n1_ := Aside0.mk (below_step (by repeat (first | (with_reducible first | exact HB.out | apply below_alloc | apply pw_below_drewN | apply below_drew1 | refine below_set ?_ GE145.out) | exact HB.out)) hb); clear BK145; clear HB; have BK145 := n0_; have HB := n1_; clear n0_ n1_; (try clear hb); (try clear hb2); (try clear hk); (try clear hi)))
            go_roundg k1
            case measure => have := HK1.out; omega
            case rel => exact ⟨(x14_1), (wrap64 (Int.tdiv (wrap64 (x14_1 + x15_1)) 2)), (by first | rfl | (simp; done) | (simp [*]; done)), (by first | rfl | (simp; done) | (simp [*]; done)), H', ⟨by have := HK1.out; omega⟩, ⟨by (with_reducible repeat (first | refine blk_drewN ?_ _ | refine blk_drew ?_ | refine blk_alloc ?_ _)); exact BK145.out⟩, ⟨by repeat (first | (with_reducible first | exact HB.out | apply below_alloc | apply pw_below_drewN | apply below_drew1 | refine below_set ?_ GE145.out) | exact HB.out)⟩⟩
          · rw [if_neg c13] at H
            have c13b0 : decide (a4 < t146) = false := decide_eq_false c13
            clear c13
            by_cases c16 : t146 = a4
            · rw [if_pos c16] at H
              have c16b0 : (t146 == a4) = true := beq_iff_eq.mpr c16
              have c16b1 : (t146 != a4) = false := bne_eq_false_iff_eq.mpr c16
              clear c16
              by_cases c17 : a5 = true
              · subst c17
                have H1 : (quadratref22_where.l0 k1 a0 a1 a4 true true (wrap64 ((wrap64 (Int.tdiv (wrap64 (x14_1 + x15_1)) 2)) + 1)) x15_1 a2_0 a2_1 a2_2) = some r := by rw [if_pos rfl] at H; exact H
                clear H
                have H := H1
                clear H1
                have H' := Aside0.mk H
                clear H
                have hcz18_0 : wr.cell? ⟨gb145, 0, none⟩ = some (.int .i64 a2_0) := (blk_cell BK145.out 0).trans rfl
                have hcz18_1 : wr.cell? ⟨gb145, 1, none⟩ = some (.int .i64 a2_1) := (blk_cell BK145.out 1).trans rfl
                have hcz18_2 : wr.cell? ⟨gb145, 2, none⟩ = some (.int .i64 a2_2) := (blk_cell BK145.out 2).trans rfl
                have hfz18_0 := blk_frozen BK145.out 0
                have hfz18_1 := blk_frozen BK145.out 1
                have hfz18_2 := blk_frozen BK145.out 2
                go_wp2_with (first | ((with_reducible refine gate_callee (f := 34) rfl ?_); refine goesL_ (some 36) rfl rfl Try.func34 (by kernel_rfl) rfl #[.int .i64 a0, .int .i64 a1, .agg #[.int .i64 a2_0, .int .i64 a2_1, .int .i64 a2_2], .int .i64 (wrap64 (Int.tdiv (wrap64 (x14_1 + x15_1)) 2))] rfl (by (try simp only [List.map_toArray, List.map_cons, List.map_nil]); first | done | rfl | (simp only [List.length_drop, List.length_take]; rfl)) ?_; (with_reducible refine (quadratref22_value.calls a0 a1 a2_0 a2_1 a2_2 (wrap64 (Int.tdiv (wrap64 (x14_1 + x15_1)) 2)) t146 _ A11.out).mono ?_); rintro e w19 ⟨rfl, hb⟩; refine ⟨_, rfl, ?_⟩; have n0_ := Aside0.mk (blk_below (g := gb145) (o := .cells #[.int .i64 a2_0, .int .i64 a2_1, .int .i64 a2_2] 25 (0, 0)) (by (with_reducible repeat (first | refine blk_drewN ?_ _ | refine blk_drew ?_ | refine blk_alloc ?_ _)); exact BK145.out) hb); have n1_ := Aside0.mk (below_step (by repeat (first | (with_reducible first | exact HB.out | apply below_alloc | apply pw_below_drewN | apply below_drew1 | refine below_set ?_ GE145.out) | exact HB.out)) hb); clear BK145; clear HB; have BK145 := n0_; have HB := n1_; clear n0_ n1_; (try clear hb); (try clear hb2); (try clear hk); (try clear hi)))
                go_roundg k1
                case measure => have := HK1.out; omega
                case rel => exact ⟨(wrap64 ((wrap64 (Int.tdiv (wrap64 (x14_1 + x15_1)) 2)) + 1)), (x15_1), (by first | rfl | (simp; done) | (simp [*]; done)), (by first | rfl | (simp; done) | (simp [*]; done)), H', ⟨by have := HK1.out; omega⟩, ⟨by (with_reducible repeat (first | refine blk_drewN ?_ _ | refine blk_drew ?_ | refine blk_alloc ?_ _)); exact BK145.out⟩, ⟨by repeat (first | (with_reducible first | exact HB.out | apply below_alloc | apply pw_below_drewN | apply below_drew1 | refine below_set ?_ GE145.out) | exact HB.out)⟩⟩
              · replace c17 := Bool.eq_false_iff.mpr c17
                subst c17
                have H1 : (quadratref22_where.l0 k1 a0 a1 a4 false true x14_1 (wrap64 (Int.tdiv (wrap64 (x14_1 + x15_1)) 2)) a2_0 a2_1 a2_2) = some r := by rw [if_neg (show ¬ (false = true) by decide)] at H; exact H
                clear H
                have H := H1
                clear H1
                have H' := Aside0.mk H
                clear H
                have hcz20_0 : wr.cell? ⟨gb145, 0, none⟩ = some (.int .i64 a2_0) := (blk_cell BK145.out 0).trans rfl
                have hcz20_1 : wr.cell? ⟨gb145, 1, none⟩ = some (.int .i64 a2_1) := (blk_cell BK145.out 1).trans rfl
                have hcz20_2 : wr.cell? ⟨gb145, 2, none⟩ = some (.int .i64 a2_2) := (blk_cell BK145.out 2).trans rfl
                have hfz20_0 := blk_frozen BK145.out 0
                have hfz20_1 := blk_frozen BK145.out 1
                have hfz20_2 := blk_frozen BK145.out 2
                go_wp2_with (first | ((with_reducible refine gate_callee (f := 34) rfl ?_); refine goesL_ (some 36) rfl rfl Try.func34 (by kernel_rfl) rfl #[.int .i64 a0, .int .i64 a1, .agg #[.int .i64 a2_0, .int .i64 a2_1, .int .i64 a2_2], .int .i64 (wrap64 (Int.tdiv (wrap64 (x14_1 + x15_1)) 2))] rfl (by (try simp only [List.map_toArray, List.map_cons, List.map_nil]); first | done | rfl | (simp only [List.length_drop, List.length_take]; rfl)) ?_; (with_reducible refine (quadratref22_value.calls a0 a1 a2_0 a2_1 a2_2 (wrap64 (Int.tdiv (wrap64 (x14_1 + x15_1)) 2)) t146 _ A11.out).mono ?_); rintro e w21 ⟨rfl, hb⟩; refine ⟨_, rfl, ?_⟩; have n0_ := Aside0.mk (blk_below (g := gb145) (o := .cells #[.int .i64 a2_0, .int .i64 a2_1, .int .i64 a2_2] 25 (0, 0)) (by (with_reducible repeat (first | refine blk_drewN ?_ _ | refine blk_drew ?_ | refine blk_alloc ?_ _)); exact BK145.out) hb); have n1_ := Aside0.mk (below_step (by repeat (first | (with_reducible first | exact HB.out | apply below_alloc | apply pw_below_drewN | apply below_drew1 | refine below_set ?_ GE145.out) | exact HB.out)) hb); clear BK145; clear HB; have BK145 := n0_; have HB := n1_; clear n0_ n1_; (try clear hb); (try clear hb2); (try clear hk); (try clear hi)))
                go_roundg k1
                case measure => have := HK1.out; omega
                case rel => exact ⟨(x14_1), (wrap64 (Int.tdiv (wrap64 (x14_1 + x15_1)) 2)), (by first | rfl | (simp; done) | (simp [*]; done)), (by first | rfl | (simp; done) | (simp [*]; done)), H', ⟨by have := HK1.out; omega⟩, ⟨by (with_reducible repeat (first | refine blk_drewN ?_ _ | refine blk_drew ?_ | refine blk_alloc ?_ _)); exact BK145.out⟩, ⟨by repeat (first | (with_reducible first | exact HB.out | apply below_alloc | apply pw_below_drewN | apply below_drew1 | refine below_set ?_ GE145.out) | exact HB.out)⟩⟩
            · rw [if_neg c16] at H
              have c16b0 : (t146 == a4) = false := beq_eq_false_iff_ne.mpr c16
              have c16b1 : (t146 != a4) = true := bne_iff_ne.mpr c16
              have H' := Aside0.mk H
              clear H
              have hcz22_0 : wr.cell? ⟨gb145, 0, none⟩ = some (.int .i64 a2_0) := (blk_cell BK145.out 0).trans rfl
              have hcz22_1 : wr.cell? ⟨gb145, 1, none⟩ = some (.int .i64 a2_1) := (blk_cell BK145.out 1).trans rfl
              have hcz22_2 : wr.cell? ⟨gb145, 2, none⟩ = some (.int .i64 a2_2) := (blk_cell BK145.out 2).trans rfl
              have hfz22_0 := blk_frozen BK145.out 0
              have hfz22_1 := blk_frozen BK145.out 1
              have hfz22_2 := blk_frozen BK145.out 2
              go_wp2_with (first | ((with_reducible refine gate_callee (f := 34) rfl ?_); refine goesL_ (some 36) rfl rfl Try.func34 (by kernel_rfl) rfl #[.int .i64 a0, .int .i64 a1, .agg #[.int .i64 a2_0, .int .i64 a2_1, .int .i64 a2_2], .int .i64 (wrap64 (Int.tdiv (wrap64 (x14_1 + x15_1)) 2))] rfl (by (try simp only [List.map_toArray, List.map_cons, List.map_nil]); first | done | rfl | (simp only [List.length_drop, List.length_take]; rfl)) ?_; (with_reducible refine (quadratref22_value.calls a0 a1 a2_0 a2_1 a2_2 (wrap64 (Int.tdiv (wrap64 (x14_1 + x15_1)) 2)) t146 _ A11.out).mono ?_); rintro e w23 ⟨rfl, hb⟩; refine ⟨_, rfl, ?_⟩; have n0_ := Aside0.mk (blk_below (g := gb145) (o := .cells #[.int .i64 a2_0, .int .i64 a2_1, .int .i64 a2_2] 25 (0, 0)) (by (with_reducible repeat (first | refine blk_drewN ?_ _ | refine blk_drew ?_ | refine blk_alloc ?_ _)); exact BK145.out) hb); have n1_ := Aside0.mk (below_step (by repeat (first | (with_reducible first | exact HB.out | apply below_alloc | apply pw_below_drewN | apply below_drew1 | refine below_set ?_ GE145.out) | exact HB.out)) hb); clear BK145; clear HB; have BK145 := n0_; have HB := n1_; clear n0_ n1_; (try clear hb); (try clear hb2); (try clear hk); (try clear hi)))
              go_roundg k1
              case measure => have := HK1.out; omega
              case rel => exact ⟨(wrap64 ((wrap64 (Int.tdiv (wrap64 (x14_1 + x15_1)) 2)) + 1)), (x15_1), (by first | rfl | (simp; done) | (simp [*]; done)), (by first | rfl | (simp; done) | (simp [*]; done)), H', ⟨by have := HK1.out; omega⟩, ⟨by (with_reducible repeat (first | refine blk_drewN ?_ _ | refine blk_drew ?_ | refine blk_alloc ?_ _)); exact BK145.out⟩, ⟨by repeat (first | (with_reducible first | exact HB.out | apply below_alloc | apply pw_below_drewN | apply below_drew1 | refine below_set ?_ GE145.out) | exact HB.out)⟩⟩
        · replace c12 := Bool.eq_false_iff.mpr c12
          subst c12
          have H1 : (if t146 < a4 then (quadratref22_where.l0 k1 a0 a1 a4 a5 false x14_1 (wrap64 (Int.tdiv (wrap64 (x14_1 + x15_1)) 2)) a2_0 a2_1 a2_2) else (if t146 = a4 then (if a5 = true then (quadratref22_where.l0 k1 a0 a1 a4 a5 false (wrap64 ((wrap64 (Int.tdiv (wrap64 (x14_1 + x15_1)) 2)) + 1)) x15_1 a2_0 a2_1 a2_2) else (quadratref22_where.l0 k1 a0 a1 a4 a5 false x14_1 (wrap64 (Int.tdiv (wrap64 (x14_1 + x15_1)) 2)) a2_0 a2_1 a2_2)) else (quadratref22_where.l0 k1 a0 a1 a4 a5 false (wrap64 ((wrap64 (Int.tdiv (wrap64 (x14_1 + x15_1)) 2)) + 1)) x15_1 a2_0 a2_1 a2_2))) = some r := by rw [if_neg (show ¬ (false = true) by decide)] at H; exact H
          clear H
          have H := H1
          clear H1
          by_cases c24 : t146 < a4
          · rw [if_pos c24] at H
            have c24b0 : decide (t146 < a4) = true := decide_eq_true c24
            clear c24
            have H' := Aside0.mk H
            clear H
            have hcz25_0 : wr.cell? ⟨gb145, 0, none⟩ = some (.int .i64 a2_0) := (blk_cell BK145.out 0).trans rfl
            have hcz25_1 : wr.cell? ⟨gb145, 1, none⟩ = some (.int .i64 a2_1) := (blk_cell BK145.out 1).trans rfl
            have hcz25_2 : wr.cell? ⟨gb145, 2, none⟩ = some (.int .i64 a2_2) := (blk_cell BK145.out 2).trans rfl
            have hfz25_0 := blk_frozen BK145.out 0
            have hfz25_1 := blk_frozen BK145.out 1
            have hfz25_2 := blk_frozen BK145.out 2
            go_wp2_with (first | ((with_reducible refine gate_callee (f := 34) rfl ?_); refine goesL_ (some 36) rfl rfl Try.func34 (by kernel_rfl) rfl #[.int .i64 a0, .int .i64 a1, .agg #[.int .i64 a2_0, .int .i64 a2_1, .int .i64 a2_2], .int .i64 (wrap64 (Int.tdiv (wrap64 (x14_1 + x15_1)) 2))] rfl (by (try simp only [List.map_toArray, List.map_cons, List.map_nil]); first | done | rfl | (simp only [List.length_drop, List.length_take]; rfl)) ?_; (with_reducible refine (quadratref22_value.calls a0 a1 a2_0 a2_1 a2_2 (wrap64 (Int.tdiv (wrap64 (x14_1 + x15_1)) 2)) t146 _ A11.out).mono ?_); rintro e w26 ⟨rfl, hb⟩; refine ⟨_, rfl, ?_⟩; have n0_ := Aside0.mk (blk_below (g := gb145) (o := .cells #[.int .i64 a2_0, .int .i64 a2_1, .int .i64 a2_2] 25 (0, 0)) (by (with_reducible repeat (first | refine blk_drewN ?_ _ | refine blk_drew ?_ | refine blk_alloc ?_ _)); exact BK145.out) hb); have n1_ := Aside0.mk (below_step (by repeat (first | (with_reducible first | exact HB.out | apply below_alloc | apply pw_below_drewN | apply below_drew1 | refine below_set ?_ GE145.out) | exact HB.out)) hb); clear BK145; clear HB; have BK145 := n0_; have HB := n1_; clear n0_ n1_; (try clear hb); (try clear hb2); (try clear hk); (try clear hi)))
            go_roundg k1
            case measure => have := HK1.out; omega
            case rel => exact ⟨(x14_1), (wrap64 (Int.tdiv (wrap64 (x14_1 + x15_1)) 2)), (by first | rfl | (simp; done) | (simp [*]; done)), (by first | rfl | (simp; done) | (simp [*]; done)), H', ⟨by have := HK1.out; omega⟩, ⟨by (with_reducible repeat (first | refine blk_drewN ?_ _ | refine blk_drew ?_ | refine blk_alloc ?_ _)); exact BK145.out⟩, ⟨by repeat (first | (with_reducible first | exact HB.out | apply below_alloc | apply pw_below_drewN | apply below_drew1 | refine below_set ?_ GE145.out) | exact HB.out)⟩⟩
          · rw [if_neg c24] at H
            have c24b0 : decide (t146 < a4) = false := decide_eq_false c24
            clear c24
            by_cases c27 : t146 = a4
            · rw [if_pos c27] at H
              have c27b0 : (t146 == a4) = true := beq_iff_eq.mpr c27
              have c27b1 : (t146 != a4) = false := bne_eq_false_iff_eq.mpr c27
              clear c27
              by_cases c28 : a5 = true
              · subst c28
                have H1 : (quadratref22_where.l0 k1 a0 a1 a4 true false (wrap64 ((wrap64 (Int.tdiv (wrap64 (x14_1 + x15_1)) 2)) + 1)) x15_1 a2_0 a2_1 a2_2) = some r := by rw [if_pos rfl] at H; exact H
                clear H
                have H := H1
                clear H1
                have H' := Aside0.mk H
                clear H
                have hcz29_0 : wr.cell? ⟨gb145, 0, none⟩ = some (.int .i64 a2_0) := (blk_cell BK145.out 0).trans rfl
                have hcz29_1 : wr.cell? ⟨gb145, 1, none⟩ = some (.int .i64 a2_1) := (blk_cell BK145.out 1).trans rfl
                have hcz29_2 : wr.cell? ⟨gb145, 2, none⟩ = some (.int .i64 a2_2) := (blk_cell BK145.out 2).trans rfl
                have hfz29_0 := blk_frozen BK145.out 0
                have hfz29_1 := blk_frozen BK145.out 1
                have hfz29_2 := blk_frozen BK145.out 2
                go_wp2_with (first | ((with_reducible refine gate_callee (f := 34) rfl ?_); refine goesL_ (some 36) rfl rfl Try.func34 (by kernel_rfl) rfl #[.int .i64 a0, .int .i64 a1, .agg #[.int .i64 a2_0, .int .i64 a2_1, .int .i64 a2_2], .int .i64 (wrap64 (Int.tdiv (wrap64 (x14_1 + x15_1)) 2))] rfl (by (try simp only [List.map_toArray, List.map_cons, List.map_nil]); first | done | rfl | (simp only [List.length_drop, List.length_take]; rfl)) ?_; (with_reducible refine (quadratref22_value.calls a0 a1 a2_0 a2_1 a2_2 (wrap64 (Int.tdiv (wrap64 (x14_1 + x15_1)) 2)) t146 _ A11.out).mono ?_); rintro e w30 ⟨rfl, hb⟩; refine ⟨_, rfl, ?_⟩; have n0_ := Aside0.mk (blk_below (g := gb145) (o := .cells #[.int .i64 a2_0, .int .i64 a2_1, .int .i64 a2_2] 25 (0, 0)) (by (with_reducible repeat (first | refine blk_drewN ?_ _ | refine blk_drew ?_ | refine blk_alloc ?_ _)); exact BK145.out) hb); have n1_ := Aside0.mk (below_step (by repeat (first | (with_reducible first | exact HB.out | apply below_alloc | apply pw_below_drewN | apply below_drew1 | refine below_set ?_ GE145.out) | exact HB.out)) hb); clear BK145; clear HB; have BK145 := n0_; have HB := n1_; clear n0_ n1_; (try clear hb); (try clear hb2); (try clear hk); (try clear hi)))
                go_roundg k1
                case measure => have := HK1.out; omega
                case rel => exact ⟨(wrap64 ((wrap64 (Int.tdiv (wrap64 (x14_1 + x15_1)) 2)) + 1)), (x15_1), (by first | rfl | (simp; done) | (simp [*]; done)), (by first | rfl | (simp; done) | (simp [*]; done)), H', ⟨by have := HK1.out; omega⟩, ⟨by (with_reducible repeat (first | refine blk_drewN ?_ _ | refine blk_drew ?_ | refine blk_alloc ?_ _)); exact BK145.out⟩, ⟨by repeat (first | (with_reducible first | exact HB.out | apply below_alloc | apply pw_below_drewN | apply below_drew1 | refine below_set ?_ GE145.out) | exact HB.out)⟩⟩
              · replace c28 := Bool.eq_false_iff.mpr c28
                subst c28
                have H1 : (quadratref22_where.l0 k1 a0 a1 a4 false false x14_1 (wrap64 (Int.tdiv (wrap64 (x14_1 + x15_1)) 2)) a2_0 a2_1 a2_2) = some r := by rw [if_neg (show ¬ (false = true) by decide)] at H; exact H
                clear H
                have H := H1
                clear H1
                have H' := Aside0.mk H
                clear H
                have hcz31_0 : wr.cell? ⟨gb145, 0, none⟩ = some (.int .i64 a2_0) := (blk_cell BK145.out 0).trans rfl
                have hcz31_1 : wr.cell? ⟨gb145, 1, none⟩ = some (.int .i64 a2_1) := (blk_cell BK145.out 1).trans rfl
                have hcz31_2 : wr.cell? ⟨gb145, 2, none⟩ = some (.int .i64 a2_2) := (blk_cell BK145.out 2).trans rfl
                have hfz31_0 := blk_frozen BK145.out 0
                have hfz31_1 := blk_frozen BK145.out 1
                have hfz31_2 := blk_frozen BK145.out 2
                go_wp2_with (first | ((with_reducible refine gate_callee (f := 34) rfl ?_); refine goesL_ (some 36) rfl rfl Try.func34 (by kernel_rfl) rfl #[.int .i64 a0, .int .i64 a1, .agg #[.int .i64 a2_0, .int .i64 a2_1, .int .i64 a2_2], .int .i64 (wrap64 (Int.tdiv (wrap64 (x14_1 + x15_1)) 2))] rfl (by (try simp only [List.map_toArray, List.map_cons, List.map_nil]); first | done | rfl | (simp only [List.length_drop, List.length_take]; rfl)) ?_; (with_reducible refine (quadratref22_value.calls a0 a1 a2_0 a2_1 a2_2 (wrap64 (Int.tdiv (wrap64 (x14_1 + x15_1)) 2)) t146 _ A11.out).mono ?_); rintro e w32 ⟨rfl, hb⟩; refine ⟨_, rfl, ?_⟩; have n0_ := Aside0.mk (blk_below (g := gb145) (o := .cells #[.int .i64 a2_0, .int .i64 a2_1, .int .i64 a2_2] 25 (0, 0)) (by (with_reducible repeat (first | refine blk_drewN ?_ _ | refine blk_drew ?_ | refine blk_alloc ?_ _)); exact BK145.out) hb); have n1_ := Aside0.mk (below_step (by repeat (first | (with_reducible first | exact HB.out | apply below_alloc | apply pw_below_drewN | apply below_drew1 | refine below_set ?_ GE145.out) | exact HB.out)) hb); clear BK145; clear HB; have BK145 := n0_; have HB := n1_; clear n0_ n1_; (try clear hb); (try clear hb2); (try clear hk); (try clear hi)))
                go_roundg k1
                case measure => have := HK1.out; omega
                case rel => exact ⟨(x14_1), (wrap64 (Int.tdiv (wrap64 (x14_1 + x15_1)) 2)), (by first | rfl | (simp; done) | (simp [*]; done)), (by first | rfl | (simp; done) | (simp [*]; done)), H', ⟨by have := HK1.out; omega⟩, ⟨by (with_reducible repeat (first | refine blk_drewN ?_ _ | refine blk_drew ?_ | refine blk_alloc ?_ _)); exact BK145.out⟩, ⟨by repeat (first | (with_reducible first | exact HB.out | apply below_alloc | apply pw_below_drewN | apply below_drew1 | refine below_set ?_ GE145.out) | exact HB.out)⟩⟩
            · rw [if_neg c27] at H
              have c27b0 : (t146 == a4) = false := beq_eq_false_iff_ne.mpr c27
              have c27b1 : (t146 != a4) = true := bne_iff_ne.mpr c27
              have H' := Aside0.mk H
              clear H
              have hcz33_0 : wr.cell? ⟨gb145, 0, none⟩ = some (.int .i64 a2_0) := (blk_cell BK145.out 0).trans rfl
              have hcz33_1 : wr.cell? ⟨gb145, 1, none⟩ = some (.int .i64 a2_1) := (blk_cell BK145.out 1).trans rfl
              have hcz33_2 : wr.cell? ⟨gb145, 2, none⟩ = some (.int .i64 a2_2) := (blk_cell BK145.out 2).trans rfl
              have hfz33_0 := blk_frozen BK145.out 0
              have hfz33_1 := blk_frozen BK145.out 1
              have hfz33_2 := blk_frozen BK145.out 2
              go_wp2_with (first | ((with_reducible refine gate_callee (f := 34) rfl ?_); refine goesL_ (some 36) rfl rfl Try.func34 (by kernel_rfl) rfl #[.int .i64 a0, .int .i64 a1, .agg #[.int .i64 a2_0, .int .i64 a2_1, .int .i64 a2_2], .int .i64 (wrap64 (Int.tdiv (wrap64 (x14_1 + x15_1)) 2))] rfl (by (try simp only [List.map_toArray, List.map_cons, List.map_nil]); first | done | rfl | (simp only [List.length_drop, List.length_take]; rfl)) ?_; (with_reducible refine (quadratref22_value.calls a0 a1 a2_0 a2_1 a2_2 (wrap64 (Int.tdiv (wrap64 (x14_1 + x15_1)) 2)) t146 _ A11.out).mono ?_); rintro e w34 ⟨rfl, hb⟩; refine ⟨_, rfl, ?_⟩; have n0_ := Aside0.mk (blk_below (g := gb145) (o := .cells #[.int .i64 a2_0, .int .i64 a2_1, .int .i64 a2_2] 25 (0, 0)) (by (with_reducible repeat (first | refine blk_drewN ?_ _ | refine blk_drew ?_ | refine blk_alloc ?_ _)); exact BK145.out) hb); have n1_ := Aside0.mk (below_step (by repeat (first | (with_reducible first | exact HB.out | apply below_alloc | apply pw_below_drewN | apply below_drew1 | refine below_set ?_ GE145.out) | exact HB.out)) hb); clear BK145; clear HB; have BK145 := n0_; have HB := n1_; clear n0_ n1_; (try clear hb); (try clear hb2); (try clear hk); (try clear hi)))
              go_roundg k1
              case measure => have := HK1.out; omega
              case rel => exact ⟨(wrap64 ((wrap64 (Int.tdiv (wrap64 (x14_1 + x15_1)) 2)) + 1)), (x15_1), (by first | rfl | (simp; done) | (simp [*]; done)), (by first | rfl | (simp; done) | (simp [*]; done)), H', ⟨by have := HK1.out; omega⟩, ⟨by (with_reducible repeat (first | refine blk_drewN ?_ _ | refine blk_drew ?_ | refine blk_alloc ?_ _)); exact BK145.out⟩, ⟨by repeat (first | (with_reducible first | exact HB.out | apply below_alloc | apply pw_below_drewN | apply below_drew1 | refine below_set ?_ GE145.out) | exact HB.out)⟩⟩
      · rw [if_neg c10] at H
        have c10b0 : decide (x14_1 < x15_1) = false := decide_eq_false c10
        clear c10
        obtain rfl := Option.some.inj H
        go_wp2
        go_ret
        exact ⟨by first | rfl | (simp [errW_none, errW_some] <;> rfl) | (simp [*, errW_none, errW_some] <;> rfl), by repeat (first | (with_reducible first | exact HB.out | apply below_alloc | apply pw_below_drewN | apply below_drew1 | refine below_set ?_ GE145.out) | exact HB.out)⟩

end Go.Proofs.Ytopnopepcpepbaa.PG
