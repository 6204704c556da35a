-- Printed by wip/qprint.py of this repository, over the kit's print, out of the translation. Not trusted: Lean checks it.
import Derived.Test.YticjlkommabcjaaPSx0
import Derived.Test.YticjlkommabcjaaUp
namespace Go.Proofs.Yticjlkommabcjaa.PS
open Go.RowKit Go.Proofs.YticjlkommabcjaaW.PrintWords Go.Proofs.YticjlkommabcjaaW.PrintLast Go.Proofs.YticjlkommabcjaaW.PrintMore
attribute [local go_sem] max2_int min2_int max_two min_two max_three min_three max_four min_four   -- for this text's walks alone
set_option linter.unusedVariables false
set_option linter.unusedSimpArgs false
set_option maxRecDepth 100000

/-! ### section_isNumber: function 43 -/
def section_isNumber.f (a0 : Int) : Option (Bool) := if a0 ≥ (-2147483648) then (some (decide (a0 ≤ 2147483648))) else (some false)
set_option maxHeartbeats 8000000 in
set_option maxRecDepth 100000 in
theorem section_isNumber.calls (a0 : Int) (r : Bool) (w : World) (h : section_isNumber.f a0 = some r) :
    Calls Try.prog 43 #[.int .i64 a0] w fun e w' => e = .returned (.bool r) ∧ Drawn0 w w' := by
  have H : (if a0 ≥ (-2147483648) then (some (decide (a0 ≤ 2147483648))) else (some false)) = some r := h
  clear h
  by_cases c2 : a0 ≥ (-2147483648)
  case pos =>
   rw [if_pos c2] at H
   have Xv : decide ((-2147483648) ≤ a0) = true := decide_eq_true c2
   clear c2
   obtain rfl := Option.some.inj H
   go_enter Try.func43, Try.ntmps43
   go_wp2
   go_ret
   exact ⟨by first | rfl | (simp; done) | (simp [*]; done), by repeat (first | exact Drawn0.refl _ | apply Drawn0.step)⟩
  rw [if_neg c2] at H
  have Xv : decide ((-2147483648) ≤ a0) = false := decide_eq_false c2
  clear c2
  obtain rfl := Option.some.inj H
  go_enter Try.func43, Try.ntmps43
  go_wp2
  go_ret
  exact ⟨by first | rfl | (simp; done) | (simp [*]; done), by repeat (first | exact Drawn0.refl _ | apply Drawn0.step)⟩

/-! ### section_Count: function 12 -/
def section_Count.f (a0_0 : Int) (a0_1 : Int) (a0_2 : Int) : Option (Int × Int) := (section_isNumber.f a0_0).bind fun Xw => (if Xw = true then ((section_isNumber.f a0_1).bind fun Xo => (if Xo = true then ((section_isNumber.f a0_2).bind fun Xk => (if Xk = true then (if a0_2 = 0 then (some (0, 2)) else (some (mx 0 (wrap64 (Int.tdiv (wrap64 ((wrap64 (a0_1 - a0_0)) + a0_2)) a0_2)), 0))) else (some (0, 2)))) else (some (0, 2)))) else (some (0, 2)))
set_option maxHeartbeats 8000000 in
set_option maxRecDepth 100000 in
theorem section_Count.calls (a0_0 : Int) (a0_1 : Int) (a0_2 : Int) (r1 : Int) (r2 : Int) (w : World) (h : section_Count.f a0_0 a0_1 a0_2 = some (r1, r2)) :
    Calls Try.prog 12 #[.agg #[.int .i64 a0_0, .int .i64 a0_1, .int .i64 a0_2]] w fun e w' => e = .returned (.tuple #[.int .i64 r1, .int .i64 r2]) ∧ Below w.heap.size w w' := by
  have hu23 := Try.underlying23
  have HB := Aside0.mk (Below.refl w.heap.size w)
  have H : ((section_isNumber.f a0_0).bind fun Xw => (if Xw = true then ((section_isNumber.f a0_1).bind fun Xo => (if Xo = true then ((section_isNumber.f a0_2).bind fun Xk => (if Xk = true then (if a0_2 = 0 then (some (0, 2)) else (some (mx 0 (wrap64 (Int.tdiv (wrap64 ((wrap64 (a0_1 - a0_0)) + a0_2)) a0_2)), 0))) else (some (0, 2)))) else (some (0, 2)))) else (some (0, 2)))) = some (r1, r2) := h
  clear h
  replace H := Option.bind_eq_some_iff.mp H
  obtain ⟨Xw, XS, H⟩ := H
  replace H : (if Xw = true then ((section_isNumber.f a0_1).bind fun Xo => (if Xo = true then ((section_isNumber.f a0_2).bind fun Xk => (if Xk = true then (if a0_2 = 0 then (some (0, 2)) else (some (mx 0 (wrap64 (Int.tdiv (wrap64 ((wrap64 (a0_1 - a0_0)) + a0_2)) a0_2)), 0))) else (some (0, 2)))) else (some (0, 2)))) else (some (0, 2))) = some (r1, r2) := H
  have A2 := Aside0.mk XS
  clear XS
  by_cases c3 : Xw = true
  case neg =>
   replace c3 := Bool.eq_false_iff.mpr c3
   subst c3
   have H1 : (some (0, 2)) = some (r1, r2) := by rw [if_neg (show ¬ (false = true) by decide)] at H; exact H
   clear H
   have H := H1
   clear H1
   simp only [Option.some.injEq, Prod.mk.injEq] at H
   obtain ⟨rfl, rfl⟩ := H
   go_enter Try.func12, Try.ntmps12
   go_wp2_with (first | ((with_reducible refine gate_dst (N := 1) rfl ?_); refine box_event ?hg (N := 1) ?hd (cs := #[.int .i64 a0_0, .int .i64 a0_1, .int .i64 a0_2]) (t := 23) ?hr ?_; (case hd => rfl); (case hg => rfl); (case hr => first | (go_simp; done) | (go_simp; rfl)); intro Xb hg w18 hbox hb; have Xg := Aside0.mk (below_step (by exact upL HB.out) hb); have Xh := Aside0.mk (hbox); have Xi := Aside0.mk ((by rw [hg]; exact (below_size (by exact upL HB.out)) : w.heap.size ≤ Xb)); have Xj := Aside0.mk ((by rw [hg]; exact (below_size (by exact upL HB.out)) : w.heap.size ≤ Xb)); clear HB; have HB := Xg; have Xa := Xh; have Xu := Xi; have Xl := Xj; clear Xg Xh Xi Xj; clear hb hbox hg; have XX : w18.cell? ⟨Xb, 0, none⟩ = some (.int .i64 a0_0) := (blk_cell Xa.out 0).trans rfl; have XY : w18.cell? ⟨Xb, 1, none⟩ = some (.int .i64 a0_1) := (blk_cell Xa.out 1).trans rfl; have XZ : w18.cell? ⟨Xb, 2, none⟩ = some (.int .i64 a0_2) := (blk_cell Xa.out 2).trans rfl; have X0 := blk_frozen Xa.out 0; have X1 := blk_frozen Xa.out 1; have X2 := blk_frozen Xa.out 2) | ((with_reducible refine gate_callee (f := 43) rfl ?_); refine goesL_ (some 6) rfl rfl Try.func43 (by kernel_rfl) rfl #[.int .i64 a0_0] rfl (by (try simp only [List.map_toArray, List.map_cons, List.map_nil]); first | done | rfl | (simp only [List.length_drop, List.length_take]; rfl)) ?_; (with_reducible refine (section_isNumber.calls a0_0 false _ A2.out).mono ?_); rintro e w' ⟨rfl, ⟨nd, rfl⟩⟩; refine ⟨_, rfl, ?_⟩))
   go_ret2
   exact ⟨by first | rfl | (simp [errW_none, errW_some] <;> rfl) | (simp [*, errW_none, errW_some] <;> rfl), by repeat (first | (with_reducible first | exact HB.out | apply upS | refine below_set ?_ Xl.out) | exact HB.out)⟩
  subst c3
  have H1 : ((section_isNumber.f a0_1).bind fun Xo => (if Xo = true then ((section_isNumber.f a0_2).bind fun Xk => (if Xk = true then (if a0_2 = 0 then (some (0, 2)) else (some (mx 0 (wrap64 (Int.tdiv (wrap64 ((wrap64 (a0_1 - a0_0)) + a0_2)) a0_2)), 0))) else (some (0, 2)))) else (some (0, 2)))) = some (r1, r2) := by rw [if_pos rfl] at H; exact H
  clear H
  have H := H1
  clear H1
  replace H := Option.bind_eq_some_iff.mp H
  obtain ⟨Xo, XT, H⟩ := H
  replace H : (if Xo = true then ((section_isNumber.f a0_2).bind fun Xk => (if Xk = true then (if a0_2 = 0 then (some (0, 2)) else (some (mx 0 (wrap64 (Int.tdiv (wrap64 ((wrap64 (a0_1 - a0_0)) + a0_2)) a0_2)), 0))) else (some (0, 2)))) else (some (0, 2))) = some (r1, r2) := H
  have A4 := Aside0.mk XT
  clear XT
  by_cases c5 : Xo = true
  case neg =>
   replace c5 := Bool.eq_false_iff.mpr c5
   subst c5
   have H1 : (some (0, 2)) = some (r1, r2) := by rw [if_neg (show ¬ (false = true) by decide)] at H; exact H
   clear H
   have H := H1
   clear H1
   simp only [Option.some.injEq, Prod.mk.injEq] at H
   obtain ⟨rfl, rfl⟩ := H
   go_enter Try.func12, Try.ntmps12
   go_wp2_with (first | ((with_reducible refine gate_dst (N := 1) rfl ?_); refine box_event ?hg (N := 1) ?hd (cs := #[.int .i64 a0_0, .int .i64 a0_1, .int .i64 a0_2]) (t := 23) ?hr ?_; (case hd => rfl); (case hg => rfl); (case hr => first | (go_simp; done) | (go_simp; rfl)); intro Xb hg w16 hbox hb; have Xg := Aside0.mk (below_step (by exact upL HB.out) hb); have Xh := Aside0.mk (hbox); have Xi := Aside0.mk ((by rw [hg]; exact (below_size (by exact upL HB.out)) : w.heap.size ≤ Xb)); have Xj := Aside0.mk ((by rw [hg]; exact (below_size (by exact upL HB.out)) : w.heap.size ≤ Xb)); clear HB; have HB := Xg; have Xa := Xh; have Xu := Xi; have Xl := Xj; clear Xg Xh Xi Xj; clear hb hbox hg; have X3 : w16.cell? ⟨Xb, 0, none⟩ = some (.int .i64 a0_0) := (blk_cell Xa.out 0).trans rfl; have X4 : w16.cell? ⟨Xb, 1, none⟩ = some (.int .i64 a0_1) := (blk_cell Xa.out 1).trans rfl; have X5 : w16.cell? ⟨Xb, 2, none⟩ = some (.int .i64 a0_2) := (blk_cell Xa.out 2).trans rfl; have X6 := blk_frozen Xa.out 0; have X7 := blk_frozen Xa.out 1; have X8 := blk_frozen Xa.out 2) | ((with_reducible refine gate_callee (f := 43) rfl ?_); refine goesL_ (some 6) rfl rfl Try.func43 (by kernel_rfl) rfl #[.int .i64 a0_0] rfl (by (try simp only [List.map_toArray, List.map_cons, List.map_nil]); first | done | rfl | (simp only [List.length_drop, List.length_take]; rfl)) ?_; (with_reducible refine (section_isNumber.calls a0_0 true _ A2.out).mono ?_); rintro e w' ⟨rfl, ⟨nd, rfl⟩⟩; refine ⟨_, rfl, ?_⟩) | (go_at_call 43; (with_reducible refine (section_isNumber.calls a0_1 false _ A4.out).mono ?_); rintro e w' ⟨rfl, ⟨nd, rfl⟩⟩))
   go_ret2
   exact ⟨by first | rfl | (simp [errW_none, errW_some] <;> rfl) | (simp [*, errW_none, errW_some] <;> rfl), by repeat (first | (with_reducible first | exact HB.out | apply upS | refine below_set ?_ Xl.out) | exact HB.out)⟩
  subst c5
  have H1 : ((section_isNumber.f a0_2).bind fun Xk => (if Xk = true then (if a0_2 = 0 then (some (0, 2)) else (some (mx 0 (wrap64 (Int.tdiv (wrap64 ((wrap64 (a0_1 - a0_0)) + a0_2)) a0_2)), 0))) else (some (0, 2)))) = some (r1, r2) := by rw [if_pos rfl] at H; exact H
  clear H
  have H := H1
  clear H1
  replace H := Option.bind_eq_some_iff.mp H
  obtain ⟨Xk, XU, H⟩ := H
  replace H : (if Xk = true then (if a0_2 = 0 then (some (0, 2)) else (some (mx 0 (wrap64 (Int.tdiv (wrap64 ((wrap64 (a0_1 - a0_0)) + a0_2)) a0_2)), 0))) else (some (0, 2))) = some (r1, r2) := H
  have A6 := Aside0.mk XU
  clear XU
  by_cases c7 : Xk = true
  case neg =>
   replace c7 := Bool.eq_false_iff.mpr c7
   subst c7
   have H1 : (some (0, 2)) = some (r1, r2) := by rw [if_neg (show ¬ (false = true) by decide)] at H; exact H
   clear H
   have H := H1
   clear H1
   simp only [Option.some.injEq, Prod.mk.injEq] at H
   obtain ⟨rfl, rfl⟩ := H
   go_enter Try.func12, Try.ntmps12
   go_wp2_with (first | ((with_reducible refine gate_dst (N := 1) rfl ?_); refine box_event ?hg (N := 1) ?hd (cs := #[.int .i64 a0_0, .int .i64 a0_1, .int .i64 a0_2]) (t := 23) ?hr ?_; (case hd => rfl); (case hg => rfl); (case hr => first | (go_simp; done) | (go_simp; rfl)); intro Xb hg w14 hbox hb; have Xg := Aside0.mk (below_step (by exact upL HB.out) hb); have Xh := Aside0.mk (hbox); have Xi := Aside0.mk ((by rw [hg]; exact (below_size (by exact upL HB.out)) : w.heap.size ≤ Xb)); have Xj := Aside0.mk ((by rw [hg]; exact (below_size (by exact upL HB.out)) : w.heap.size ≤ Xb)); clear HB; have HB := Xg; have Xa := Xh; have Xu := Xi; have Xl := Xj; clear Xg Xh Xi Xj; clear hb hbox hg; have XA : w14.cell? ⟨Xb, 0, none⟩ = some (.int .i64 a0_0) := (blk_cell Xa.out 0).trans rfl; have XB : w14.cell? ⟨Xb, 1, none⟩ = some (.int .i64 a0_1) := (blk_cell Xa.out 1).trans rfl; have XC : w14.cell? ⟨Xb, 2, none⟩ = some (.int .i64 a0_2) := (blk_cell Xa.out 2).trans rfl; have XD := blk_frozen Xa.out 0; have XE := blk_frozen Xa.out 1; have XF := blk_frozen Xa.out 2) | ((with_reducible refine gate_callee (f := 43) rfl ?_); refine goesL_ (some 6) rfl rfl Try.func43 (by kernel_rfl) rfl #[.int .i64 a0_0] rfl (by (try simp only [List.map_toArray, List.map_cons, List.map_nil]); first | done | rfl | (simp only [List.length_drop, List.length_take]; rfl)) ?_; (with_reducible refine (section_isNumber.calls a0_0 true _ A2.out).mono ?_); rintro e w' ⟨rfl, ⟨nd, rfl⟩⟩; refine ⟨_, rfl, ?_⟩) | (go_at_call 43; (with_reducible refine (section_isNumber.calls a0_1 true _ A4.out).mono ?_); rintro e w' ⟨rfl, ⟨nd, rfl⟩⟩) | (go_at_call 43; (with_reducible refine (section_isNumber.calls a0_2 false _ A6.out).mono ?_); rintro e w' ⟨rfl, ⟨nd, rfl⟩⟩))
   go_ret2
   exact ⟨by first | rfl | (simp [errW_none, errW_some] <;> rfl) | (simp [*, errW_none, errW_some] <;> rfl), by repeat (first | (with_reducible first | exact HB.out | apply upS | refine below_set ?_ Xl.out) | exact HB.out)⟩
  subst c7
  have H1 : (if a0_2 = 0 then (some (0, 2)) else (some (mx 0 (wrap64 (Int.tdiv (wrap64 ((wrap64 (a0_1 - a0_0)) + a0_2)) a0_2)), 0))) = some (r1, r2) := by rw [if_pos rfl] at H; exact H
  clear H
  have H := H1
  clear H1
  by_cases c8 : a0_2 = 0
  case pos =>
   rw [if_pos c8] at H
   have Yf : (a0_2 == 0) = true := beq_iff_eq.mpr c8
   have Yg : (a0_2 != 0) = false := bne_eq_false_iff_eq.mpr c8
   clear c8
   simp only [Option.some.injEq, Prod.mk.injEq] at H
   obtain ⟨rfl, rfl⟩ := H
   go_enter Try.func12, Try.ntmps12
   go_wp2_with (first | ((with_reducible refine gate_dst (N := 1) rfl ?_); refine box_event ?hg (N := 1) ?hd (cs := #[.int .i64 a0_0, .int .i64 a0_1, .int .i64 a0_2]) (t := 23) ?hr ?_; (case hd => rfl); (case hg => rfl); (case hr => first | (go_simp; done) | (go_simp; rfl)); intro Xb hg w9 hbox hb; have Xg := Aside0.mk (below_step (by exact upL HB.out) hb); have Xh := Aside0.mk (hbox); have Xi := Aside0.mk ((by rw [hg]; exact (below_size (by exact upL HB.out)) : w.heap.size ≤ Xb)); have Xj := Aside0.mk ((by rw [hg]; exact (below_size (by exact upL HB.out)) : w.heap.size ≤ Xb)); clear HB; have HB := Xg; have Xa := Xh; have Xu := Xi; have Xl := Xj; clear Xg Xh Xi Xj; clear hb hbox hg; have X9 : w9.cell? ⟨Xb, 0, none⟩ = some (.int .i64 a0_0) := (blk_cell Xa.out 0).trans rfl; have Ya : w9.cell? ⟨Xb, 1, none⟩ = some (.int .i64 a0_1) := (blk_cell Xa.out 1).trans rfl; have Yb : w9.cell? ⟨Xb, 2, none⟩ = some (.int .i64 a0_2) := (blk_cell Xa.out 2).trans rfl; have Yc := blk_frozen Xa.out 0; have Yd := blk_frozen Xa.out 1; have Ye := blk_frozen Xa.out 2) | ((with_reducible refine gate_callee (f := 43) rfl ?_); refine goesL_ (some 6) rfl rfl Try.func43 (by kernel_rfl) rfl #[.int .i64 a0_0] rfl (by (try simp only [List.map_toArray, List.map_cons, List.map_nil]); first | done | rfl | (simp only [List.length_drop, List.length_take]; rfl)) ?_; (with_reducible refine (section_isNumber.calls a0_0 true _ A2.out).mono ?_); rintro e w' ⟨rfl, ⟨nd, rfl⟩⟩; refine ⟨_, rfl, ?_⟩) | (go_at_call 43; (with_reducible refine (section_isNumber.calls a0_1 true _ A4.out).mono ?_); rintro e w' ⟨rfl, ⟨nd, rfl⟩⟩) | (go_at_call 43; (with_reducible refine (section_isNumber.calls a0_2 true _ A6.out).mono ?_); rintro e w' ⟨rfl, ⟨nd, rfl⟩⟩))
   go_ret2
   exact ⟨by first | rfl | (simp [errW_none, errW_some] <;> rfl) | (simp [*, errW_none, errW_some] <;> rfl), by repeat (first | (with_reducible first | exact HB.out | apply upS | refine below_set ?_ Xl.out) | exact HB.out)⟩
  rw [if_neg c8] at H
  have Yf : (a0_2 == 0) = false := beq_eq_false_iff_ne.mpr c8
  have Yg : (a0_2 != 0) = true := bne_iff_ne.mpr c8
  obtain ⟨ji11, hji11⟩ : ∃ j_ : Int, (mx 0 (wrap64 (Int.tdiv (wrap64 ((wrap64 (a0_1 - a0_0)) + a0_2)) a0_2))) = j_ := ⟨_, rfl⟩
  replace H : (some (ji11, 0)) = some (r1, r2) := by first | (rw [hji11] at H; exact H) | (simp only [hji11] at H ⊢; exact H)
  (try rw [hji11] at A2)
  (try rw [hji11] at A4)
  (try rw [hji11] at A6)
  (try (have hji11l : 0 ≤ ji11 := by (rw [← hji11]; unfold mx; (repeat' split) <;> omega)))
  (try (have hji11m : 0 ≤ ji11 := by omega))
  have hji11_ : (if 0 < (wrap64 (Int.tdiv (wrap64 ((wrap64 (a0_1 - a0_0)) + a0_2)) a0_2)) then (wrap64 (Int.tdiv (wrap64 ((wrap64 (a0_1 - a0_0)) + a0_2)) a0_2)) else 0) = ji11 := hji11
  simp only [Option.some.injEq, Prod.mk.injEq] at H
  obtain ⟨rfl, rfl⟩ := H
  go_enter Try.func12, Try.ntmps12
  go_wp2_with (first | ((with_reducible refine gate_dst (N := 1) rfl ?_); refine box_event ?hg (N := 1) ?hd (cs := #[.int .i64 a0_0, .int .i64 a0_1, .int .i64 a0_2]) (t := 23) ?hr ?_; (case hd => rfl); (case hg => rfl); (case hr => first | (go_simp; done) | (go_simp; rfl)); intro Xb hg w12 hbox hb; have Xg := Aside0.mk (below_step (by exact upL HB.out) hb); have Xh := Aside0.mk (hbox); have Xi := Aside0.mk ((by rw [hg]; exact (below_size (by exact upL HB.out)) : w.heap.size ≤ Xb)); have Xj := Aside0.mk ((by rw [hg]; exact (below_size (by exact upL HB.out)) : w.heap.size ≤ Xb)); clear HB; have HB := Xg; have Xa := Xh; have Xu := Xi; have Xl := Xj; clear Xg Xh Xi Xj; clear hb hbox hg; have XG : w12.cell? ⟨Xb, 0, none⟩ = some (.int .i64 a0_0) := (blk_cell Xa.out 0).trans rfl; have XH : w12.cell? ⟨Xb, 1, none⟩ = some (.int .i64 a0_1) := (blk_cell Xa.out 1).trans rfl; have XI : w12.cell? ⟨Xb, 2, none⟩ = some (.int .i64 a0_2) := (blk_cell Xa.out 2).trans rfl; have XJ := blk_frozen Xa.out 0; have XK := blk_frozen Xa.out 1; have XL := blk_frozen Xa.out 2) | ((with_reducible refine gate_callee (f := 43) rfl ?_); refine goesL_ (some 6) rfl rfl Try.func43 (by kernel_rfl) rfl #[.int .i64 a0_0] rfl (by (try simp only [List.map_toArray, List.map_cons, List.map_nil]); first | done | rfl | (simp only [List.length_drop, List.length_take]; rfl)) ?_; (with_reducible refine (section_isNumber.calls a0_0 true _ A2.out).mono ?_); rintro e w' ⟨rfl, ⟨nd, rfl⟩⟩; refine ⟨_, rfl, ?_⟩) | (go_at_call 43; (with_reducible refine (section_isNumber.calls a0_1 true _ A4.out).mono ?_); rintro e w' ⟨rfl, ⟨nd, rfl⟩⟩) | (go_at_call 43; (with_reducible refine (section_isNumber.calls a0_2 true _ A6.out).mono ?_); rintro e w' ⟨rfl, ⟨nd, rfl⟩⟩))
  go_ret2
  exact ⟨by first | rfl | (simp [errW_none, errW_some] <;> rfl) | (simp only [← hji11]; first | rfl | (simp [errW_none, errW_some] <;> rfl)) | (simp [*, errW_none, errW_some] <;> rfl), by repeat (first | (with_reducible first | exact HB.out | apply upS | refine below_set ?_ Xl.out) | exact HB.out)⟩

/-! ### quadratref06_near: function 51 -/
def quadratref06_near.f (a0 : Int) : Option (Bool) := if a0 ≥ (-2147483648) then (some (decide (a0 ≤ 2147483648))) else (some false)
set_option maxHeartbeats 8000000 in
set_option maxRecDepth 100000 in
theorem quadratref06_near.calls (a0 : Int) (r : Bool) (w : World) (h : quadratref06_near.f a0 = some r) :
    Calls Try.prog 51 #[.int .i64 a0] w fun e w' => e = .returned (.bool r) ∧ Drawn0 w w' := by
  have H : (if a0 ≥ (-2147483648) then (some (decide (a0 ≤ 2147483648))) else (some false)) = some r := h
  clear h
  by_cases c2 : a0 ≥ (-2147483648)
  case pos =>
   rw [if_pos c2] at H
   have Xv : decide ((-2147483648) ≤ a0) = true := decide_eq_true c2
   clear c2
   obtain rfl := Option.some.inj H
   go_enter Try.func51, Try.ntmps51
   go_wp2
   go_ret
   exact ⟨by first | rfl | (simp; done) | (simp [*]; done), by repeat (first | exact Drawn0.refl _ | apply Drawn0.step)⟩
  rw [if_neg c2] at H
  have Xv : decide ((-2147483648) ≤ a0) = false := decide_eq_false c2
  clear c2
  obtain rfl := Option.some.inj H
  go_enter Try.func51, Try.ntmps51
  go_wp2
  go_ret
  exact ⟨by first | rfl | (simp; done) | (simp [*]; done), by repeat (first | exact Drawn0.refl _ | apply Drawn0.step)⟩

/-! ### quadratref06_IsTriple: function 44 -/
def quadratref06_IsTriple.f (a0_0 : Int) (a0_1 : Int) (a0_2 : Int) : Option (Bool) := (quadratref06_near.f a0_0).bind fun Xx => (if Xx = true then ((quadratref06_near.f a0_1).bind fun Xp => (if Xp = true then ((quadratref06_near.f a0_2).bind fun Xm => (if Xm = true then (some (a0_2 != 0)) else (some false))) else (some false))) else (some false))
set_option maxHeartbeats 8000000 in
set_option maxRecDepth 100000 in
theorem quadratref06_IsTriple.calls (a0_0 : Int) (a0_1 : Int) (a0_2 : Int) (r : Bool) (w : World) (h : quadratref06_IsTriple.f a0_0 a0_1 a0_2 = some r) :
    Calls Try.prog 44 #[.agg #[.int .i64 a0_0, .int .i64 a0_1, .int .i64 a0_2]] w fun e w' => e = .returned (.bool r) ∧ Below w.heap.size w w' := by
  have hu23 := Try.underlying23
  have HB := Aside0.mk (Below.refl w.heap.size w)
  have H : ((quadratref06_near.f a0_0).bind fun Xx => (if Xx = true then ((quadratref06_near.f a0_1).bind fun Xp => (if Xp = true then ((quadratref06_near.f a0_2).bind fun Xm => (if Xm = true then (some (a0_2 != 0)) else (some false))) else (some false))) else (some false))) = some r := h
  clear h
  replace H := Option.bind_eq_some_iff.mp H
  obtain ⟨Xx, XS, H⟩ := H
  replace H : (if Xx = true then ((quadratref06_near.f a0_1).bind fun Xp => (if Xp = true then ((quadratref06_near.f a0_2).bind fun Xm => (if Xm = true then (some (a0_2 != 0)) else (some false))) else (some false))) else (some false)) = some r := H
  have A2 := Aside0.mk XS
  clear XS
  by_cases c3 : Xx = true
  case neg =>
   replace c3 := Bool.eq_false_iff.mpr c3
   subst c3
   have H1 : (some false) = some r := by rw [if_neg (show ¬ (false = true) by decide)] at H; exact H
   clear H
   have H := H1
   clear H1
   obtain rfl := Option.some.inj H
   go_enter Try.func44, Try.ntmps44
   go_wp2_with (first | ((with_reducible refine gate_dst (N := 1) rfl ?_); refine box_event ?hg (N := 1) ?hd (cs := #[.int .i64 a0_0, .int .i64 a0_1, .int .i64 a0_2]) (t := 23) ?hr ?_; (case hd => rfl); (case hg => rfl); (case hr => first | (go_simp; done) | (go_simp; rfl)); intro Xe hg w14 hbox hb; have Xg := Aside0.mk (below_step (by exact upL HB.out) hb); have Xh := Aside0.mk (hbox); have Xi := Aside0.mk ((by rw [hg]; exact (below_size (by exact upL HB.out)) : w.heap.size ≤ Xe)); have Xj := Aside0.mk ((by rw [hg]; exact (below_size (by exact upL HB.out)) : w.heap.size ≤ Xe)); clear HB; have HB := Xg; have Xd := Xh; have Xz := Xi; have Xn := Xj; clear Xg Xh Xi Xj; clear hb hbox hg; have XA : w14.cell? ⟨Xe, 0, none⟩ = some (.int .i64 a0_0) := (blk_cell Xd.out 0).trans rfl; have XB : w14.cell? ⟨Xe, 1, none⟩ = some (.int .i64 a0_1) := (blk_cell Xd.out 1).trans rfl; have XC : w14.cell? ⟨Xe, 2, none⟩ = some (.int .i64 a0_2) := (blk_cell Xd.out 2).trans rfl; have XD := blk_frozen Xd.out 0; have XE := blk_frozen Xd.out 1; have XF := blk_frozen Xd.out 2) | ((with_reducible refine gate_callee (f := 51) rfl ?_); refine goesL_ (some 5) rfl rfl Try.func51 (by kernel_rfl) rfl #[.int .i64 a0_0] rfl (by (try simp only [List.map_toArray, List.map_cons, List.map_nil]); first | done | rfl | (simp only [List.length_drop, List.length_take]; rfl)) ?_; (with_reducible refine (quadratref06_near.calls a0_0 false _ A2.out).mono ?_); rintro e w' ⟨rfl, ⟨nd, rfl⟩⟩; refine ⟨_, rfl, ?_⟩))
   go_ret
   exact ⟨by first | rfl | (simp [errW_none, errW_some] <;> rfl) | (simp [*, errW_none, errW_some] <;> rfl), by repeat (first | (with_reducible first | exact HB.out | apply upS | refine below_set ?_ Xn.out) | exact HB.out)⟩
  subst c3
  have H1 : ((quadratref06_near.f a0_1).bind fun Xp => (if Xp = true then ((quadratref06_near.f a0_2).bind fun Xm => (if Xm = true then (some (a0_2 != 0)) else (some false))) else (some false))) = some r := by rw [if_pos rfl] at H; exact H
  clear H
  have H := H1
  clear H1
  replace H := Option.bind_eq_some_iff.mp H
  obtain ⟨Xp, XT, H⟩ := H
  replace H : (if Xp = true then ((quadratref06_near.f a0_2).bind fun Xm => (if Xm = true then (some (a0_2 != 0)) else (some false))) else (some false)) = some r := H
  have A4 := Aside0.mk XT
  clear XT
  by_cases c5 : Xp = true
  case neg =>
   replace c5 := Bool.eq_false_iff.mpr c5
   subst c5
   have H1 : (some false) = some r := by rw [if_neg (show ¬ (false = true) by decide)] at H; exact H
   clear H
   have H := H1
   clear H1
   obtain rfl := Option.some.inj H
   go_enter Try.func44, Try.ntmps44
   go_wp2_with (first | ((with_reducible refine gate_dst (N := 1) rfl ?_); refine box_event ?hg (N := 1) ?hd (cs := #[.int .i64 a0_0, .int .i64 a0_1, .int .i64 a0_2]) (t := 23) ?hr ?_; (case hd => rfl); (case hg => rfl); (case hr => first | (go_simp; done) | (go_simp; rfl)); intro Xe hg w12 hbox hb; have Xg := Aside0.mk (below_step (by exact upL HB.out) hb); have Xh := Aside0.mk (hbox); have Xi := Aside0.mk ((by rw [hg]; exact (below_size (by exact upL HB.out)) : w.heap.size ≤ Xe)); have Xj := Aside0.mk ((by rw [hg]; exact (below_size (by exact upL HB.out)) : w.heap.size ≤ Xe)); clear HB; have HB := Xg; have Xd := Xh; have Xz := Xi; have Xn := Xj; clear Xg Xh Xi Xj; clear hb hbox hg; have XG : w12.cell? ⟨Xe, 0, none⟩ = some (.int .i64 a0_0) := (blk_cell Xd.out 0).trans rfl; have XH : w12.cell? ⟨Xe, 1, none⟩ = some (.int .i64 a0_1) := (blk_cell Xd.out 1).trans rfl; have XI : w12.cell? ⟨Xe, 2, none⟩ = some (.int .i64 a0_2) := (blk_cell Xd.out 2).trans rfl; have XJ := blk_frozen Xd.out 0; have XK := blk_frozen Xd.out 1; have XL := blk_frozen Xd.out 2) | ((with_reducible refine gate_callee (f := 51) rfl ?_); refine goesL_ (some 5) rfl rfl Try.func51 (by kernel_rfl) rfl #[.int .i64 a0_0] rfl (by (try simp only [List.map_toArray, List.map_cons, List.map_nil]); first | done | rfl | (simp only [List.length_drop, List.length_take]; rfl)) ?_; (with_reducible refine (quadratref06_near.calls a0_0 true _ A2.out).mono ?_); rintro e w' ⟨rfl, ⟨nd, rfl⟩⟩; refine ⟨_, rfl, ?_⟩) | (go_at_call 51; (with_reducible refine (quadratref06_near.calls a0_1 false _ A4.out).mono ?_); rintro e w' ⟨rfl, ⟨nd, rfl⟩⟩))
   go_ret
   exact ⟨by first | rfl | (simp [errW_none, errW_some] <;> rfl) | (simp [*, errW_none, errW_some] <;> rfl), by repeat (first | (with_reducible first | exact HB.out | apply upS | refine below_set ?_ Xn.out) | exact HB.out)⟩
  subst c5
  have H1 : ((quadratref06_near.f a0_2).bind fun Xm => (if Xm = true then (some (a0_2 != 0)) else (some false))) = some r := by rw [if_pos rfl] at H; exact H
  clear H
  have H := H1
  clear H1
  replace H := Option.bind_eq_some_iff.mp H
  obtain ⟨Xm, XU, H⟩ := H
  replace H : (if Xm = true then (some (a0_2 != 0)) else (some false)) = some r := H
  have A6 := Aside0.mk XU
  clear XU
  by_cases c7 : Xm = true
  case pos =>
   subst c7
   have H1 : (some (a0_2 != 0)) = some r := by rw [if_pos rfl] at H; exact H
   clear H
   have H := H1
   clear H1
   obtain rfl := Option.some.inj H
   go_enter Try.func44, Try.ntmps44
   go_wp2_with (first | ((with_reducible refine gate_dst (N := 1) rfl ?_); refine box_event ?hg (N := 1) ?hd (cs := #[.int .i64 a0_0, .int .i64 a0_1, .int .i64 a0_2]) (t := 23) ?hr ?_; (case hd => rfl); (case hg => rfl); (case hr => first | (go_simp; done) | (go_simp; rfl)); intro Xe hg w8 hbox hb; have Xg := Aside0.mk (below_step (by exact upL HB.out) hb); have Xh := Aside0.mk (hbox); have Xi := Aside0.mk ((by rw [hg]; exact (below_size (by exact upL HB.out)) : w.heap.size ≤ Xe)); have Xj := Aside0.mk ((by rw [hg]; exact (below_size (by exact upL HB.out)) : w.heap.size ≤ Xe)); clear HB; have HB := Xg; have Xd := Xh; have Xz := Xi; have Xn := Xj; clear Xg Xh Xi Xj; clear hb hbox hg; have Yh : w8.cell? ⟨Xe, 0, none⟩ = some (.int .i64 a0_0) := (blk_cell Xd.out 0).trans rfl; have Yi : w8.cell? ⟨Xe, 1, none⟩ = some (.int .i64 a0_1) := (blk_cell Xd.out 1).trans rfl; have Yj : w8.cell? ⟨Xe, 2, none⟩ = some (.int .i64 a0_2) := (blk_cell Xd.out 2).trans rfl; have Yk := blk_frozen Xd.out 0; have Yl := blk_frozen Xd.out 1; have Ym := blk_frozen Xd.out 2) | ((with_reducible refine gate_callee (f := 51) rfl ?_); refine goesL_ (some 5) rfl rfl Try.func51 (by kernel_rfl) rfl #[.int .i64 a0_0] rfl (by (try simp only [List.map_toArray, List.map_cons, List.map_nil]); first | done | rfl | (simp only [List.length_drop, List.length_take]; rfl)) ?_; (with_reducible refine (quadratref06_near.calls a0_0 true _ A2.out).mono ?_); rintro e w' ⟨rfl, ⟨nd, rfl⟩⟩; refine ⟨_, rfl, ?_⟩) | (go_at_call 51; (with_reducible refine (quadratref06_near.calls a0_1 true _ A4.out).mono ?_); rintro e w' ⟨rfl, ⟨nd, rfl⟩⟩) | (go_at_call 51; (with_reducible refine (quadratref06_near.calls a0_2 true _ A6.out).mono ?_); rintro e w' ⟨rfl, ⟨nd, rfl⟩⟩))
   go_ret
   exact ⟨by first | rfl | (simp [errW_none, errW_some] <;> rfl) | (simp [*, errW_none, errW_some] <;> rfl), by repeat (first | (with_reducible first | exact HB.out | apply upS | refine below_set ?_ Xn.out) | exact HB.out)⟩
  replace c7 := Bool.eq_false_iff.mpr c7
  subst c7
  have H1 : (some false) = some r := by rw [if_neg (show ¬ (false = true) by decide)] at H; exact H
  clear H
  have H := H1
  clear H1
  obtain rfl := Option.some.inj H
  go_enter Try.func44, Try.ntmps44
  go_wp2_with (first | ((with_reducible refine gate_dst (N := 1) rfl ?_); refine box_event ?hg (N := 1) ?hd (cs := #[.int .i64 a0_0, .int .i64 a0_1, .int .i64 a0_2]) (t := 23) ?hr ?_; (case hd => rfl); (case hg => rfl); (case hr => first | (go_simp; done) | (go_simp; rfl)); intro Xe hg w10 hbox hb; have Xg := Aside0.mk (below_step (by exact upL HB.out) hb); have Xh := Aside0.mk (hbox); have Xi := Aside0.mk ((by rw [hg]; exact (below_size (by exact upL HB.out)) : w.heap.size ≤ Xe)); have Xj := Aside0.mk ((by rw [hg]; exact (below_size (by exact upL HB.out)) : w.heap.size ≤ Xe)); clear HB; have HB := Xg; have Xd := Xh; have Xz := Xi; have Xn := Xj; clear Xg Xh Xi Xj; clear hb hbox hg; have XM : w10.cell? ⟨Xe, 0, none⟩ = some (.int .i64 a0_0) := (blk_cell Xd.out 0).trans rfl; have XN : w10.cell? ⟨Xe, 1, none⟩ = some (.int .i64 a0_1) := (blk_cell Xd.out 1).trans rfl; have XO : w10.cell? ⟨Xe, 2, none⟩ = some (.int .i64 a0_2) := (blk_cell Xd.out 2).trans rfl; have XP := blk_frozen Xd.out 0; have XQ := blk_frozen Xd.out 1; have XR := blk_frozen Xd.out 2) | ((with_reducible refine gate_callee (f := 51) rfl ?_); refine goesL_ (some 5) rfl rfl Try.func51 (by kernel_rfl) rfl #[.int .i64 a0_0] rfl (by (try simp only [List.map_toArray, List.map_cons, List.map_nil]); first | done | rfl | (simp only [List.length_drop, List.length_take]; rfl)) ?_; (with_reducible refine (quadratref06_near.calls a0_0 true _ A2.out).mono ?_); rintro e w' ⟨rfl, ⟨nd, rfl⟩⟩; refine ⟨_, rfl, ?_⟩) | (go_at_call 51; (with_reducible refine (quadratref06_near.calls a0_1 true _ A4.out).mono ?_); rintro e w' ⟨rfl, ⟨nd, rfl⟩⟩) | (go_at_call 51; (with_reducible refine (quadratref06_near.calls a0_2 false _ A6.out).mono ?_); rintro e w' ⟨rfl, ⟨nd, rfl⟩⟩))
  go_ret
  exact ⟨by first | rfl | (simp [errW_none, errW_some] <;> rfl) | (simp [*, errW_none, errW_some] <;> rfl), by repeat (first | (with_reducible first | exact HB.out | apply upS | refine below_set ?_ Xn.out) | exact HB.out)⟩

/-! ### quadratref06_count: function 45 -/
def quadratref06_count.f (a0_0 : Int) (a0_1 : Int) (a0_2 : Int) : Option (Int) := if a0_2 = 0 then (none) else (some (mx 0 (wrap64 (Int.tdiv (wrap64 ((wrap64 (a0_1 - a0_0)) + a0_2)) a0_2))))
set_option maxHeartbeats 8000000 in
set_option maxRecDepth 100000 in
theorem quadratref06_count.calls (a0_0 : Int) (a0_1 : Int) (a0_2 : Int) (r : Int) (w : World) (h : quadratref06_count.f a0_0 a0_1 a0_2 = some r) :
    Calls Try.prog 45 #[.agg #[.int .i64 a0_0, .int .i64 a0_1, .int .i64 a0_2]] w fun e w' => e = .returned (.int .i64 r) ∧ Below w.heap.size w w' := by
  have hu23 := Try.underlying23
  have HB := Aside0.mk (Below.refl w.heap.size w)
  have H : (if a0_2 = 0 then (none) else (some (mx 0 (wrap64 (Int.tdiv (wrap64 ((wrap64 (a0_1 - a0_0)) + a0_2)) a0_2))))) = some r := h
  clear h
  by_cases c2 : a0_2 = 0
  case pos =>
   rw [if_pos c2] at H
   exact absurd H (by simp)
  rw [if_neg c2] at H
  have Xv : (a0_2 == 0) = false := beq_eq_false_iff_ne.mpr c2
  have YH : (a0_2 != 0) = true := bne_iff_ne.mpr c2
  obtain ⟨ji3, hji3⟩ : ∃ j_ : Int, (mx 0 (wrap64 (Int.tdiv (wrap64 ((wrap64 (a0_1 - a0_0)) + a0_2)) a0_2))) = j_ := ⟨_, rfl⟩
  replace H : (some ji3) = some r := by first | (rw [hji3] at H; exact H) | (simp only [hji3] at H ⊢; exact H)
  (try (have hji3l : 0 ≤ ji3 := by (rw [← hji3]; unfold mx; (repeat' split) <;> omega)))
  (try (have hji3m : 0 ≤ ji3 := by omega))
  have hji3_ : (if 0 < (wrap64 (Int.tdiv (wrap64 ((wrap64 (a0_1 - a0_0)) + a0_2)) a0_2)) then (wrap64 (Int.tdiv (wrap64 ((wrap64 (a0_1 - a0_0)) + a0_2)) a0_2)) else 0) = ji3 := hji3
  obtain rfl := Option.some.inj H
  go_enter Try.func45, Try.ntmps45
  go_wp2_with (first | ((with_reducible refine gate_dst (N := 1) rfl ?_); refine box_event ?hg (N := 1) ?hd (cs := #[.int .i64 a0_0, .int .i64 a0_1, .int .i64 a0_2]) (t := 23) ?hr ?_; (case hd => rfl); (case hg => rfl); (case hr => first | (go_simp; done) | (go_simp; rfl)); intro Xt hg w4 hbox hb; have Xg := Aside0.mk (below_step (by exact upL HB.out) hb); have Xh := Aside0.mk (hbox); have Xi := Aside0.mk ((by rw [hg]; exact (below_size (by exact upL HB.out)) : w.heap.size ≤ Xt)); have Xj := Aside0.mk ((by rw [hg]; exact (below_size (by exact upL HB.out)) : w.heap.size ≤ Xt)); clear HB; have HB := Xg; have Xr := Xh; have YF := Xi; have XV := Xj; clear Xg Xh Xi Xj; clear hb hbox hg; have Yn : w4.cell? ⟨Xt, 0, none⟩ = some (.int .i64 a0_0) := (blk_cell Xr.out 0).trans rfl; have Yo : w4.cell? ⟨Xt, 1, none⟩ = some (.int .i64 a0_1) := (blk_cell Xr.out 1).trans rfl; have Yp : w4.cell? ⟨Xt, 2, none⟩ = some (.int .i64 a0_2) := (blk_cell Xr.out 2).trans rfl; have Yq := blk_frozen Xr.out 0; have Yr := blk_frozen Xr.out 1; have Ys := blk_frozen Xr.out 2))
  go_ret
  exact ⟨by first | rfl | (simp [errW_none, errW_some] <;> rfl) | (simp only [← hji3]; first | rfl | (simp [errW_none, errW_some] <;> rfl)) | (simp [*, errW_none, errW_some] <;> rfl), by repeat (first | (with_reducible first | exact HB.out | apply upS | refine below_set ?_ XV.out) | exact HB.out)⟩

/-! ### quadratref06_Count: function 13 -/
def quadratref06_Count.f (a0_0 : Int) (a0_1 : Int) (a0_2 : Int) : Option (Int × Int) := (quadratref06_IsTriple.f a0_0 a0_1 a0_2).bind fun Xy => (if Xy = true then ((quadratref06_count.f a0_0 a0_1 a0_2).bind fun Xq => (some (Xq, 0))) else (some (0, 2)))
set_option maxHeartbeats 8000000 in
set_option maxRecDepth 100000 in
theorem quadratref06_Count.calls (a0_0 : Int) (a0_1 : Int) (a0_2 : Int) (r1 : Int) (r2 : Int) (w : World) (h : quadratref06_Count.f a0_0 a0_1 a0_2 = some (r1, r2)) :
    Calls Try.prog 13 #[.agg #[.int .i64 a0_0, .int .i64 a0_1, .int .i64 a0_2]] w fun e w' => e = .returned (.tuple #[.int .i64 r1, .int .i64 r2]) ∧ Below w.heap.size w w' := by
  have hu23 := Try.underlying23
  have HB := Aside0.mk (Below.refl w.heap.size w)
  have H : ((quadratref06_IsTriple.f a0_0 a0_1 a0_2).bind fun Xy => (if Xy = true then ((quadratref06_count.f a0_0 a0_1 a0_2).bind fun Xq => (some (Xq, 0))) else (some (0, 2)))) = some (r1, r2) := h
  clear h
  replace H := Option.bind_eq_some_iff.mp H
  obtain ⟨Xy, XS, H⟩ := H
  replace H : (if Xy = true then ((quadratref06_count.f a0_0 a0_1 a0_2).bind fun Xq => (some (Xq, 0))) else (some (0, 2))) = some (r1, r2) := H
  have A2 := Aside0.mk XS
  clear XS
  by_cases c3 : Xy = true
  case neg =>
   replace c3 := Bool.eq_false_iff.mpr c3
   subst c3
   have H1 : (some (0, 2)) = some (r1, r2) := by rw [if_neg (show ¬ (false = true) by decide)] at H; exact H
   clear H
   have H := H1
   clear H1
   simp only [Option.some.injEq, Prod.mk.injEq] at H
   obtain ⟨rfl, rfl⟩ := H
   go_enter Try.func13, Try.ntmps13
   go_wp2_with (first | ((with_reducible refine gate_dst (N := 1) rfl ?_); refine box_event ?hg (N := 1) ?hd (cs := #[.int .i64 a0_0, .int .i64 a0_1, .int .i64 a0_2]) (t := 23) ?hr ?_; (case hd => rfl); (case hg => rfl); (case hr => first | (go_simp; done) | (go_simp; rfl)); intro Xf hg w10 hbox hb; have Xg := Aside0.mk (below_step (by exact upL HB.out) hb); have Xh := Aside0.mk (hbox); have Xi := Aside0.mk ((by rw [hg]; exact (below_size (by exact upL HB.out)) : w.heap.size ≤ Xf)); have Xj := Aside0.mk ((by rw [hg]; exact (below_size (by exact upL HB.out)) : w.heap.size ≤ Xf)); clear HB; have HB := Xg; have Xc := Xh; have XW := Xi; have Xs := Xj; clear Xg Xh Xi Xj; clear hb hbox hg; have XM : w10.cell? ⟨Xf, 0, none⟩ = some (.int .i64 a0_0) := (blk_cell Xc.out 0).trans rfl; have XN : w10.cell? ⟨Xf, 1, none⟩ = some (.int .i64 a0_1) := (blk_cell Xc.out 1).trans rfl; have XO : w10.cell? ⟨Xf, 2, none⟩ = some (.int .i64 a0_2) := (blk_cell Xc.out 2).trans rfl; have XP := blk_frozen Xc.out 0; have XQ := blk_frozen Xc.out 1; have XR := blk_frozen Xc.out 2) | ((with_reducible refine gate_callee (f := 44) rfl ?_); refine goesL_ (some 5) rfl rfl Try.func44 (by kernel_rfl) rfl #[.agg #[.int .i64 a0_0, .int .i64 a0_1, .int .i64 a0_2]] rfl (by (try simp only [List.map_toArray, List.map_cons, List.map_nil]); first | done | rfl | (simp only [List.length_drop, List.length_take]; rfl)) ?_; (with_reducible refine (quadratref06_IsTriple.calls a0_0 a0_1 a0_2 false _ A2.out).mono ?_); rintro e w12 ⟨rfl, hb⟩; refine ⟨_, rfl, ?_⟩; have Xg := Aside0.mk (blk_below (g := Xf) (o := .cells #[.int .i64 a0_0, .int .i64 a0_1, .int .i64 a0_2] 23 (0, 0)) (by exact upB Xc.out) hb); have Xh := Aside0.mk (below_step (by repeat (first | (with_reducible first | exact HB.out | apply upS | refine below_set ?_ Xs.out) | exact HB.out)) hb); clear Xc; clear HB; have Xc := Xg; have HB := Xh; clear Xg Xh; (try clear hb); (try clear YG); (try clear hk); (try clear hi)))
   go_ret2
   exact ⟨by first | rfl | (simp [errW_none, errW_some] <;> rfl) | (simp [*, errW_none, errW_some] <;> rfl), by repeat (first | (with_reducible first | exact HB.out | apply upS | refine below_set ?_ Xs.out) | exact HB.out)⟩
  subst c3
  have H1 : ((quadratref06_count.f a0_0 a0_1 a0_2).bind fun Xq => (some (Xq, 0))) = some (r1, r2) := by rw [if_pos rfl] at H; exact H
  clear H
  have H := H1
  clear H1
  replace H := Option.bind_eq_some_iff.mp H
  obtain ⟨Xq, XT, H⟩ := H
  replace H : (some (Xq, 0)) = some (r1, r2) := H
  have A4 := Aside0.mk XT
  clear XT
  simp only [Option.some.injEq, Prod.mk.injEq] at H
  obtain ⟨rfl, rfl⟩ := H
  go_enter Try.func13, Try.ntmps13
  go_wp2_with (first | ((with_reducible refine gate_dst (N := 1) rfl ?_); refine box_event ?hg (N := 1) ?hd (cs := #[.int .i64 a0_0, .int .i64 a0_1, .int .i64 a0_2]) (t := 23) ?hr ?_; (case hd => rfl); (case hg => rfl); (case hr => first | (go_simp; done) | (go_simp; rfl)); intro Xf hg w5 hbox hb; have Xg := Aside0.mk (below_step (by exact upL HB.out) hb); have Xh := Aside0.mk (hbox); have Xi := Aside0.mk ((by rw [hg]; exact (below_size (by exact upL HB.out)) : w.heap.size ≤ Xf)); have Xj := Aside0.mk ((by rw [hg]; exact (below_size (by exact upL HB.out)) : w.heap.size ≤ Xf)); clear HB; have HB := Xg; have Xc := Xh; have XW := Xi; have Xs := Xj; clear Xg Xh Xi Xj; clear hb hbox hg; have Yt : w5.cell? ⟨Xf, 0, none⟩ = some (.int .i64 a0_0) := (blk_cell Xc.out 0).trans rfl; have Yu : w5.cell? ⟨Xf, 1, none⟩ = some (.int .i64 a0_1) := (blk_cell Xc.out 1).trans rfl; have Yv : w5.cell? ⟨Xf, 2, none⟩ = some (.int .i64 a0_2) := (blk_cell Xc.out 2).trans rfl; have Yw := blk_frozen Xc.out 0; have Yx := blk_frozen Xc.out 1; have Yy := blk_frozen Xc.out 2) | ((with_reducible refine gate_callee (f := 44) rfl ?_); refine goesL_ (some 5) rfl rfl Try.func44 (by kernel_rfl) rfl #[.agg #[.int .i64 a0_0, .int .i64 a0_1, .int .i64 a0_2]] rfl (by (try simp only [List.map_toArray, List.map_cons, List.map_nil]); first | done | rfl | (simp only [List.length_drop, List.length_take]; rfl)) ?_; (with_reducible refine (quadratref06_IsTriple.calls a0_0 a0_1 a0_2 true _ A2.out).mono ?_); rintro e w7 ⟨rfl, hb⟩; refine ⟨_, rfl, ?_⟩; have Xg := Aside0.mk (blk_below (g := Xf) (o := .cells #[.int .i64 a0_0, .int .i64 a0_1, .int .i64 a0_2] 23 (0, 0)) (by exact upB Xc.out) hb); have Xh := Aside0.mk (below_step (by repeat (first | (with_reducible first | exact HB.out | apply upS | refine below_set ?_ Xs.out) | exact HB.out)) hb); clear Xc; clear HB; have Xc := Xg; have HB := Xh; clear Xg Xh; (try clear hb); (try clear YG); (try clear hk); (try clear hi); have Yz : w7.cell? ⟨Xf, 0, none⟩ = some (.int .i64 a0_0) := (blk_cell Xc.out 0).trans rfl; have YA : w7.cell? ⟨Xf, 1, none⟩ = some (.int .i64 a0_1) := (blk_cell Xc.out 1).trans rfl; have YB : w7.cell? ⟨Xf, 2, none⟩ = some (.int .i64 a0_2) := (blk_cell Xc.out 2).trans rfl; have YC := blk_frozen Xc.out 0; have YD := blk_frozen Xc.out 1; have YE := blk_frozen Xc.out 2) | ((with_reducible refine gate_callee (f := 45) rfl ?_); refine goesL_ (some 8) rfl rfl Try.func45 (by kernel_rfl) rfl #[.agg #[.int .i64 a0_0, .int .i64 a0_1, .int .i64 a0_2]] rfl (by (try simp only [List.map_toArray, List.map_cons, List.map_nil]); first | done | rfl | (simp only [List.length_drop, List.length_take]; rfl)) ?_; (with_reducible refine (quadratref06_count.calls a0_0 a0_1 a0_2 Xq _ A4.out).mono ?_); rintro e w9 ⟨rfl, hb⟩; refine ⟨_, rfl, ?_⟩; have Xg := Aside0.mk (blk_below (g := Xf) (o := .cells #[.int .i64 a0_0, .int .i64 a0_1, .int .i64 a0_2] 23 (0, 0)) (by exact upB Xc.out) hb); have Xh := Aside0.mk (below_step (by repeat (first | (with_reducible first | exact HB.out | apply upS | refine below_set ?_ Xs.out) | exact HB.out)) hb); clear Xc; clear HB; have Xc := Xg; have HB := Xh; clear Xg Xh; (try clear hb); (try clear YG); (try clear hk); (try clear hi)))
  go_ret2
  exact ⟨by first | rfl | (simp [errW_none, errW_some] <;> rfl) | (simp [*, errW_none, errW_some] <;> rfl), by repeat (first | (with_reducible first | exact HB.out | apply upS | refine below_set ?_ Xs.out) | exact HB.out)⟩

/-! ### section_size_1: function 60 -/
def section_size_1.f (a0 : Int) : Option (Bool) := if a0 < 0 then (some true) else (some (decide (a0 > 4000)))
set_option maxHeartbeats 8000000 in
set_option maxRecDepth 100000 in
theorem section_size_1.calls (a0 : Int) (r : Bool) (w : World) (h : section_size_1.f a0 = some r) :
    Calls Try.prog 60 #[.int .i64 a0] w fun e w' => e = .returned (.bool r) ∧ Drawn0 w w' := by
  have H : (if a0 < 0 then (some true) else (some (decide (a0 > 4000)))) = some r := h
  clear h
  by_cases c2 : a0 < 0
  case pos =>
   rw [if_pos c2] at H
   have Xv : decide (a0 < 0) = true := decide_eq_true c2
   clear c2
   obtain rfl := Option.some.inj H
   go_enter Try.func60, Try.ntmps60
   go_wp2
   go_ret
   exact ⟨by first | rfl | (simp; done) | (simp [*]; done), by repeat (first | exact Drawn0.refl _ | apply Drawn0.step)⟩
  rw [if_neg c2] at H
  have Xv : decide (a0 < 0) = false := decide_eq_false c2
  clear c2
  obtain rfl := Option.some.inj H
  go_enter Try.func60, Try.ntmps60
  go_wp2
  go_ret
  exact ⟨by first | rfl | (simp; done) | (simp [*]; done), by repeat (first | exact Drawn0.refl _ | apply Drawn0.step)⟩

end Go.Proofs.Yticjlkommabcjaa.PS
