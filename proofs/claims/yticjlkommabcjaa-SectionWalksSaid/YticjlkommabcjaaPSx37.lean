-- Printed by wip/qprint.py of this repository, over the kit's print, out of the translation. Not trusted: Lean checks it.
import Derived.Test.YticjlkommabcjaaPSx0
import Derived.Test.YticjlkommabcjaaPSx9
import Derived.Test.YticjlkommabcjaaPSx18
import Derived.Test.YticjlkommabcjaaPSx21
import Derived.Test.YticjlkommabcjaaPSx24
namespace Go.Proofs.Yticjlkommabcjaa.PS
open Go.RowKit Go.Proofs.YticjlkommabcjaaW.PrintWords Go.Proofs.YticjlkommabcjaaW.PrintLast Go.Proofs.YticjlkommabcjaaW.PrintMore
attribute [local go_sem] max2_int min2_int max_two min_two max_three min_three max_four min_four   -- for this text's walks alone
set_option linter.unusedVariables false
set_option linter.unusedSimpArgs false
set_option maxRecDepth 100000

/-! ### quadratlaw06_SectionWalks: function 10 -/
mutual
def quadratlaw06_SectionWalks.j0 : Nat → List Int → Bool → Int → List Int → List Int → Option (Bool)
  | 0, _, _, _, _, _ => none
  | k + 1, x3, x20, x588000, x588001, x588002 => if x20 = true then ((quadratlaw06_Awake.f k).bind fun t592 => (some t592)) else (if 0 ≤ (x588001.length : Int) then (if ((x588001.length : Int) : Int).toNat ≤ 35184372088832 then (quadratlaw06_SectionWalks.l0 k x3 (List.replicate ((x588001.length : Int) : Int).toNat 0) 0 x588000 x588001 x588002) else (none)) else (none))
def quadratlaw06_SectionWalks.l0 : Nat → List Int → List Int → Int → Int → List Int → List Int → Option (Bool)
  | 0, _, _, _, _, _, _ => none
  | k + 1, x3, x5, x6, x588000, x588001, x588002 => if x6 < (x3.length : Int) then ((section_At.f k x588000 x588001 x588002 x5).bind fun bt597 => (if bt597.2 = 0 then (if 0 ≤ x6 then (if bt597.1 = (rd x3 x6) then ((section_Next.f k x588001 x5).bind fun bt600 => (if (bt600.1 != (decide (x6 < (wrap64 ((x3.length : Int) - 1))))) = true then (some false) else (quadratlaw06_SectionWalks.l0 k x3 bt600.2 (wrap64 (x6 + 1)) x588000 x588001 x588002))) else (some false)) else (none)) else (some false))) else ((quadratlaw06_Awake.f k).bind fun t596 => (some t596))
end
def quadratlaw06_SectionWalks.f (k : Nat) (a0_0 : Int) (l0_1 : List Int) (l0_2 : List Int) : Option (Bool) := (section_Places.f k a0_0 l0_1 l0_2).bind fun bt588 => (if bt588.2 = 0 then (quadratlaw06_SectionWalks.j0 k bt588.1 (decide ((bt588.1.length : Int) > 500)) a0_0 l0_1 l0_2) else (quadratlaw06_SectionWalks.j0 k bt588.1 true a0_0 l0_1 l0_2))
set_option maxHeartbeats 8000000 in
set_option maxRecDepth 100000 in
theorem quadratlaw06_SectionWalks.calls (k : Nat) (a0_0 : Int) (A0_1 : Option Addr) (c0_1 : Nat) (l0_1 : List Int) (A0_2 : Option Addr) (c0_2 : Nat) (l0_2 : List Int) (r : Bool) (w : World) (hr0_1 : Kd.C (Kd.int .i64) w A0_1 l0_1.length l0_1) (hc0_1 : l0_1.length ≤ c0_1) (hr0_2 : Kd.C (Kd.int .i64) w A0_2 l0_2.length l0_2) (hc0_2 : l0_2.length ≤ c0_2) (hr9 : r = true) (h : quadratlaw06_SectionWalks.f k a0_0 l0_1 l0_2 = some r) :
    Calls Try.prog 10 #[.agg #[.int .i64 a0_0, .slice A0_1 l0_1.length c0_1, .slice A0_2 l0_2.length c0_2]] w fun e w' => e = .returned (.bool r) ∧ Below w.heap.size w w' := by
  have hu31 := Try.underlying31
  have HR9 := Aside0.mk hr9
  clear hr9
  have HR0_1 := Aside0.mk hr0_1
  have HC0_1 := Aside0.mk hc0_1
  clear hr0_1 hc0_1
  have HR0_2 := Aside0.mk hr0_2
  have HC0_2 := Aside0.mk hc0_2
  clear hr0_2 hc0_2
  have HB := Aside0.mk (Below.refl w.heap.size w)
  have H : ((section_Places.f k a0_0 l0_1 l0_2).bind fun bt588 => (if bt588.2 = 0 then (quadratlaw06_SectionWalks.j0 k bt588.1 (decide ((bt588.1.length : Int) > 500)) a0_0 l0_1 l0_2) else (quadratlaw06_SectionWalks.j0 k bt588.1 true a0_0 l0_1 l0_2))) = some r := h
  clear h
  replace H := Option.bind_eq_some_iff.mp H
  obtain ⟨⟨t588, t591⟩, A20, H⟩ := H
  replace H : (if t591 = 0 then (quadratlaw06_SectionWalks.j0 k t588 (decide ((t588.length : Int) > 500)) a0_0 l0_1 l0_2) else (quadratlaw06_SectionWalks.j0 k t588 true a0_0 l0_1 l0_2)) = some r := H
  have A2 := Aside0.mk A20
  clear A20
  have HC3 := Aside0.mk H
  clear H
  go_enter Try.func10, Try.ntmps10
  go_upto_region 2 with (first | ((with_reducible refine gate_dst (N := 1) rfl ?_); (try (refine gate_guard (by rfl) ?_; dsimp only)); refine box_event ?hg (N := 1) ?hd (cs := #[.int .i64 a0_0, .slice A0_1 l0_1.length c0_1, .slice A0_2 l0_2.length c0_2]) (t := 31) ?hr ?_; (case hd => rfl); (case hg => rfl); (case hr => first | (go_simp; done) | (go_simp; rfl)); intro gb587 hg w4 hbox hb; have n0_ := Aside0.mk (below_step (by repeat (first | (with_reducible first | exact HB.out | apply below_alloc | apply pw_below_drewN | apply below_drew1) | exact HB.out)) hb); have n1_ := Aside0.mk (hbox); have n2_ := Aside0.mk ((by rw [hg]; exact (below_size (by repeat (first | (with_reducible first | exact HB.out | apply below_alloc | apply pw_below_drewN | apply below_drew1) | exact HB.out))) : w.heap.size ≤ gb587)); have n3_ := Aside0.mk ((by rw [hg]; exact (below_size (by repeat (first | (with_reducible first | exact HB.out | apply below_alloc | apply pw_below_drewN | apply below_drew1) | exact HB.out))) : w.heap.size ≤ gb587)); clear HB; have HB := n0_; have BK587 := n1_; have GW587 := n2_; have GE587 := n3_; clear n0_ n1_ n2_ n3_; clear hb hbox hg; have hcz5_0 : w4.cell? ⟨gb587, 0, none⟩ = some (.int .i64 a0_0) := (blk_cell BK587.out 0).trans rfl; have hcz5_1 : w4.cell? ⟨gb587, 1, none⟩ = some (.slice A0_1 l0_1.length c0_1) := (blk_cell BK587.out 1).trans rfl; have hcz5_2 : w4.cell? ⟨gb587, 2, none⟩ = some (.slice A0_2 l0_2.length c0_2) := (blk_cell BK587.out 2).trans rfl; have hfz5_0 := blk_frozen BK587.out 0; have hfz5_1 := blk_frozen BK587.out 1; have hfz5_2 := blk_frozen BK587.out 2) | ((with_reducible refine gate_callee (f := 25) rfl ?_); refine goesL_ (some 11) rfl rfl Try.func25 (by kernel_rfl) rfl #[.agg #[.int .i64 a0_0, .slice A0_1 l0_1.length c0_1, .slice A0_2 l0_2.length c0_2]] rfl (by (try simp only [List.map_toArray, List.map_cons, List.map_nil]); first | done | rfl | (simp only [List.length_drop, List.length_take]; rfl)) ?_; (with_reducible refine (section_Places.calls k a0_0 _ _ l0_1 _ _ l0_2 t588 t591 _ ?side1 ?side2 ?side3 ?side4 A2.out).mono ?_); (case side1 => repeat (first | exact (Kd.C_below HR0_1.out HB.out) | (with_reducible refine Kd.C_alloc ?_ _) | (with_reducible refine Kd.C_drewN ?_ _) | (with_reducible refine Kd.C_drew ?_))); (case side2 => exact HC0_1.out); (case side3 => repeat (first | exact (Kd.C_below HR0_2.out HB.out) | (with_reducible refine Kd.C_alloc ?_ _) | (with_reducible refine Kd.C_drewN ?_ _) | (with_reducible refine Kd.C_drew ?_))); (case side4 => exact HC0_2.out); rintro e w6 ⟨v589, rfl, ho0, hb⟩; refine ⟨_, rfl, ?_⟩; have n0_ := Aside0.mk (Kd.R_lower ho0 (below_size (by repeat (first | (with_reducible first | exact HB.out | apply below_alloc | apply pw_below_drewN | apply below_drew1 | refine below_set ?_ GE587.out) | exact HB.out)))); have n1_ := Aside0.mk (blk_below (g := gb587) (o := .cells #[.int .i64 a0_0, .slice A0_1 l0_1.length c0_1, .slice A0_2 l0_2.length c0_2] 31 (0, 0)) (by (with_reducible repeat first | apply blk_drewN | apply blk_drew | apply blk_alloc); exact BK587.out) hb); have n2_ := Aside0.mk (below_step (by repeat (first | (with_reducible first | exact HB.out | apply below_alloc | apply pw_below_drewN | apply below_drew1 | refine below_set ?_ GE587.out) | exact HB.out)) hb); clear BK587; clear HB; have HO590 := n0_; have BK587 := n1_; have HB := n2_; clear n0_ n1_ n2_; (try clear hb); (try clear hb2); (try clear hk); (try clear hi); (try clear ho0)))
  (try simp only [Act.put, List.setIfInBounds_toArray, List.set_cons_zero, List.set_cons_succ])
  go_cut [20] (fun v20 wc => ∃ (kq : Nat) (x20_2 : Bool), v20 = .bool x20_2 ∧ Aside0 (quadratlaw06_SectionWalks.j0 kq t588 x20_2 a0_0 l0_1 l0_2 = some r) ∧ Aside0 (kq ≤ k) ∧ Aside0 (Kd.R (Kd.int .i64) 3 wc w.heap.size (fun _ => True) v589 t588) ∧ Aside0 (wc.heap[gb587]? = some (.cells #[.int .i64 a0_0, (.slice A0_1 l0_1.length c0_1), (.slice A0_2 l0_2.length c0_2)] 31 (0, 0))) ∧ Aside0 (Below w.heap.size w wc))
  case first =>
   have H := HC3.out
   clear HC3
   by_cases c7 : t591 = 0
   case neg =>
    rw [if_neg c7] at H
    have c7b0 : (t591 == 0) = false := beq_eq_false_iff_ne.mpr c7
    have c7b1 : (t591 != 0) = true := bne_iff_ne.mpr c7
    (first | rw [c7b0] | (simp only [i64_w, i32_w]; rw [c7b0]) | skip)
    have H' := Aside0.mk H
    clear H
    go_wp2
    go_meet
    case rel => exact ⟨_, (true), (by first | rfl | (simp; done) | (simp [*]; done)), H', ⟨by first | omega | exact Nat.le_refl _⟩, ⟨by (with_reducible repeat first | apply Kd.R_alloc | apply Kd.R_drewN | apply Kd.R_drew); exact HO590.out⟩, ⟨by (with_reducible repeat first | apply blk_drewN | apply blk_drew | apply blk_alloc); exact BK587.out⟩, ⟨by repeat (first | (with_reducible first | exact HB.out | apply below_alloc | apply pw_below_drewN | apply below_drew1 | refine below_set ?_ GE587.out) | exact HB.out)⟩⟩
   rw [if_pos c7] at H
   have c7b0 : (t591 == 0) = true := beq_iff_eq.mpr c7
   have c7b1 : (t591 != 0) = false := bne_eq_false_iff_eq.mpr c7
   clear c7
   (first | rw [c7b0] | (simp only [i64_w, i32_w]; rw [c7b0]) | skip)
   have H' := Aside0.mk H
   clear H
   obtain ⟨Ao8, co8, eo8⟩ := Kd.R_slice HO590.out
   subst eo8
   go_wp2
   go_meet
   case rel => exact ⟨_, (decide ((t588.length : Int) > 500)), (by first | rfl | (simp; done) | (simp [*]; done)), H', ⟨by first | omega | exact Nat.le_refl _⟩, ⟨by (with_reducible repeat first | apply Kd.R_alloc | apply Kd.R_drewN | apply Kd.R_drew); exact HO590.out⟩, ⟨by (with_reducible repeat first | apply blk_drewN | apply blk_drew | apply blk_alloc); exact BK587.out⟩, ⟨by repeat (first | (with_reducible first | exact HB.out | apply below_alloc | apply pw_below_drewN | apply below_drew1 | refine below_set ?_ GE587.out) | exact HB.out)⟩⟩
  clear HC3
  try clear c1
  try clear c2
  try clear p2
  try clear c7
  try clear c7b0
  try clear c7b1
  try clear hcz5_0
  try clear hcz5_1
  try clear hcz5_2
  try clear hfz5_0
  try clear hfz5_1
  try clear hfz5_2
  obtain ⟨kq, x20_2, rfl, HA, HJ2, HO_3, BK587, HB⟩ := hcut
  cases kq with
  | zero => exact absurd HA.out (by simp [quadratlaw06_SectionWalks.j0])
  | succ kj2 =>
   have H := HA.out
   clear HA
   simp only [quadratlaw06_SectionWalks.j0] at H
   by_cases c9 : x20_2 = true
   case pos =>
    subst c9
    have H1 : ((quadratlaw06_Awake.f kj2).bind fun t592 => (some t592)) = some r := by rw [if_pos rfl] at H; exact H
    clear H
    have H := H1
    clear H1
    replace H := Option.bind_eq_some_iff.mp H
    obtain ⟨t592, A100, H⟩ := H
    replace H : (some t592) = some r := H
    have A10 := Aside0.mk A100
    clear A100
    obtain rfl := Option.some.inj H
    go_wp2_with (first | ((with_reducible refine gate_callee (f := 14) rfl ?_); refine goesL_ (some 21) rfl rfl Try.func14 (by kernel_rfl) rfl #[] rfl (by (try simp only [List.map_toArray, List.map_cons, List.map_nil]); first | done | rfl | (simp only [List.length_drop, List.length_take]; rfl)) ?_; (with_reducible refine (quadratlaw06_Awake.calls kj2  t592 _ A10.out).mono ?_); rintro e w11 ⟨rfl, hb⟩; refine ⟨_, rfl, ?_⟩; have n0_ := Aside0.mk (Kd.R_below (by (with_reducible repeat first | apply Kd.R_alloc | apply Kd.R_drewN | apply Kd.R_drew); exact HO_3.out) hb); have n1_ := Aside0.mk (blk_below (g := gb587) (o := .cells #[.int .i64 a0_0, .slice A0_1 l0_1.length c0_1, .slice A0_2 l0_2.length c0_2] 31 (0, 0)) (by (with_reducible repeat first | apply blk_drewN | apply blk_drew | apply blk_alloc); exact BK587.out) hb); have n2_ := Aside0.mk (below_step (by repeat (first | (with_reducible first | exact HB.out | apply below_alloc | apply pw_below_drewN | apply below_drew1 | refine below_set ?_ GE587.out) | exact HB.out)) hb); clear HO_3; clear BK587; clear HB; have HO_3 := n0_; have BK587 := n1_; have HB := n2_; clear n0_ n1_ n2_; (try clear hb); (try clear hb2); (try clear hk); (try clear hi)))
    go_ret
    exact ⟨by first | rfl | (simp [errW_none, errW_some] <;> rfl) | (simp [*, errW_none, errW_some] <;> rfl), by repeat (first | (with_reducible first | exact HB.out | apply below_alloc | apply pw_below_drewN | apply below_drew1 | refine below_set ?_ GE587.out) | exact HB.out)⟩
   replace c9 := Bool.eq_false_iff.mpr c9
   subst c9
   have H1 : (if 0 ≤ (l0_1.length : Int) then (if ((l0_1.length : Int) : Int).toNat ≤ 35184372088832 then (quadratlaw06_SectionWalks.l0 kj2 t588 (List.replicate ((l0_1.length : Int) : Int).toNat 0) 0 a0_0 l0_1 l0_2) else (none)) else (none)) = some r := by rw [if_neg (show ¬ (false = true) by decide)] at H; exact H
   clear H
   have H := H1
   clear H1
   by_cases c12 : 0 ≤ (l0_1.length : Int)
   case neg =>
    rw [if_neg c12] at H
    exact absurd H (by simp)
   rw [if_pos c12] at H
   have c12b0 := eq_true c12
   have c12b1 : decide (0 ≤ (l0_1.length : Int)) = true := decide_eq_true c12
   clear c12
   by_cases c13 : ((l0_1.length : Int) : Int).toNat ≤ 35184372088832
   case neg =>
    rw [if_neg c13] at H
    exact absurd H (by simp)
   rw [if_pos c13] at H
   have c13b0 := eq_true c13
   have c13b1 : decide (((l0_1.length : Int) : Int).toNat ≤ 35184372088832) = true := decide_eq_true c13
   clear c13
   obtain ⟨y593, hy593⟩ : ∃ y_ : List Int, y_ = (List.replicate ((l0_1.length : Int) : Int).toNat 0) := ⟨_, rfl⟩
   replace H : (quadratlaw06_SectionWalks.l0 kj2 t588 y593 0 a0_0 l0_1 l0_2) = some r := by first | (rw [hy593]; with_reducible exact H) | (have H2_ := (Option.bind_some _ _).symm.trans H; rw [hy593]; with_reducible exact H2_) | (have H2_ := (Option.bind_some _ _).symm.trans H; with_reducible exact H2_) | with_reducible exact H | (rw [hy593]; exact H) | exact H
   have Ny593 := Aside0.mk hy593
   clear hy593
   have H' := Aside0.mk H
   clear H
   have hcz14_0 : wc.cell? ⟨gb587, 0, none⟩ = some (.int .i64 a0_0) := (blk_cell BK587.out 0).trans rfl
   have hcz14_1 : wc.cell? ⟨gb587, 1, none⟩ = some (.slice A0_1 l0_1.length c0_1) := (blk_cell BK587.out 1).trans rfl
   have hcz14_2 : wc.cell? ⟨gb587, 2, none⟩ = some (.slice A0_2 l0_2.length c0_2) := (blk_cell BK587.out 2).trans rfl
   have hfz14_0 := blk_frozen BK587.out 0
   have hfz14_1 := blk_frozen BK587.out 1
   have hfz14_2 := blk_frozen BK587.out 2
   go_wp2_with (first | ((with_reducible refine gate_dst (N := 25) rfl ?_); (try (refine gate_guard (by rfl) ?_; dsimp only)); refine Kd.R_make (Kd.int .i64) _ 3 rfl (N := 25) rfl 29 _ _ rfl (l0_1.length : Int) rfl rfl Try.underlying29 (.int .i64 0) 8 info3 rfl (by decide) (by omega) 0 (ok := fun _ => True) (okp := fun _ => True) rfl (fun _ hk => hk) trivial (of_decide_eq_true (by first | (with_reducible assumption) | assumption)) (Nat.le_trans (Nat.mul_le_mul_right _ (of_decide_eq_true (by first | (with_reducible assumption) | assumption) : (l0_1.length : Int).toNat ≤ 35184372088832)) (by omega)) (Below.refl _ _) (Nat.le_refl _) ?_; intro v594 w15 ho16 hb hg_ hnew_; clear hg_ hnew_; (first | rw [← Ny593.out] at ho16 | (simp only [Int.reduceToNat] at ho16; rw [← Ny593.out] at ho16)); have n0_ := Aside0.mk (Kd.R_elder' (by (with_reducible repeat first | apply Kd.R_alloc | apply Kd.R_drewN | apply Kd.R_drew); exact HO_3.out) (Kd.R_base ho16) hb); have n1_ := Aside0.mk (Kd.R_lower (Kd.R_new' ho16 (Kd.R_lt (by (with_reducible repeat first | apply Kd.R_alloc | apply Kd.R_drewN | apply Kd.R_drew); exact HO_3.out))) (below_size (by repeat (first | (with_reducible first | exact HB.out | apply below_alloc | apply pw_below_drewN | apply below_drew1 | refine below_set ?_ GE587.out) | exact HB.out)))); have n2_ := Aside0.mk (blk_below (g := gb587) (o := .cells #[.int .i64 a0_0, .slice A0_1 l0_1.length c0_1, .slice A0_2 l0_2.length c0_2] 31 (0, 0)) (by (with_reducible repeat first | apply blk_drewN | apply blk_drew | apply blk_alloc); exact BK587.out) hb); have n3_ := Aside0.mk (below_step (by repeat (first | (with_reducible first | exact HB.out | apply below_alloc | apply pw_below_drewN | apply below_drew1 | refine below_set ?_ GE587.out) | exact HB.out)) hb); clear HO_3; clear BK587; clear HB; have HO_3 := n0_; have HO595 := n1_; have BK587 := n2_; have HB := n3_; clear n0_ n1_ n2_ n3_; clear hb ho16))
   go_loopg [6] kj2 (fun kq v6 w' => ∃ (x5_2 : List Int) (x6_2 : Int), v6 = .int .i64 x6_2 ∧ Aside0 (quadratlaw06_SectionWalks.l0 kq t588 x5_2 x6_2 a0_0 l0_1 l0_2 = some r) ∧ Aside0 (kq ≤ kj2) ∧ Aside0 (Kd.R (Kd.int .i64) 3 w' w.heap.size (fun k_ => some k_ ≠ (v594 : Value).ownBlock) v589 t588) ∧ Aside0 (Kd.R (Kd.int .i64) 3 w' w.heap.size (fun k_ => some k_ ≠ (v589 : Value).ownBlock) v594 x5_2) ∧ Aside0 (w'.heap[gb587]? = some (.cells #[.int .i64 a0_0, (.slice A0_1 l0_1.length c0_1), (.slice A0_2 l0_2.length c0_2)] 31 (0, 0))) ∧ Aside0 (Below w.heap.size w w'))
   case atStart => exact ⟨(y593), (0), (by first | rfl | (simp; done) | (simp [*]; done)), H', ⟨Nat.le_refl _⟩, ⟨by (with_reducible repeat first | apply Kd.R_alloc | apply Kd.R_drewN | apply Kd.R_drew); exact Kd.R_mono HO_3.out (fun _ hk => hk.2)⟩, ⟨by (with_reducible repeat first | apply Kd.R_alloc | apply Kd.R_drewN | apply Kd.R_drew); exact Kd.R_mono HO595.out (fun _ hk => hk.2)⟩, ⟨by (with_reducible repeat first | apply blk_drewN | apply blk_drew | apply blk_alloc); exact BK587.out⟩, ⟨by repeat (first | (with_reducible first | exact HB.out | apply below_alloc | apply pw_below_drewN | apply below_drew1 | refine below_set ?_ GE587.out) | exact HB.out)⟩⟩
   clear H'
   try clear c1
   try clear c2
   try clear p2
   try clear c7
   try clear c7b0
   try clear c7b1
   try clear c9
   try clear c10
   try clear c12
   try clear c12b0
   try clear c12b1
   try clear c13
   try clear c13b0
   try clear c13b1
   try clear c14
   try clear hcz14_0
   try clear hcz14_1
   try clear hcz14_2
   try clear hcz5_0
   try clear hcz5_1
   try clear hcz5_2
   try clear hfz14_0
   try clear hfz14_1
   try clear hfz14_2
   try clear hfz5_0
   try clear hfz5_1
   try clear hfz5_2
   try clear p2
   obtain ⟨x5_2, x6_2, rfl, HA, HK2, HO_3, HO_5, BK587, HB⟩ := hrel
   cases gk with
   | zero => exact absurd HA.out (by simp [quadratlaw06_SectionWalks.l0])
   | succ k2 =>
    have H := HA.out
    clear HA
    simp only [quadratlaw06_SectionWalks.l0] at H
    by_cases c17 : x6_2 < (t588.length : Int)
    case neg =>
     rw [if_neg c17] at H
     have c17b0 : decide (x6_2 < (t588.length : Int)) = false := decide_eq_false c17
     clear c17
     replace H := Option.bind_eq_some_iff.mp H
     obtain ⟨t596, A300, H⟩ := H
     replace H : (some t596) = some r := H
     have A30 := Aside0.mk A300
     clear A300
     obtain rfl := Option.some.inj H
     obtain ⟨Ao31, co31, eo31⟩ := Kd.R_slice HO_3.out
     subst eo31
     go_wp2_with (first | ((with_reducible refine gate_callee (f := 14) rfl ?_); refine goesL_ (some 60) rfl rfl Try.func14 (by kernel_rfl) rfl #[] rfl (by (try simp only [List.map_toArray, List.map_cons, List.map_nil]); first | done | rfl | (simp only [List.length_drop, List.length_take]; rfl)) ?_; (with_reducible refine (quadratlaw06_Awake.calls k2  t596 _ A30.out).mono ?_); rintro e w32 ⟨rfl, hb⟩; refine ⟨_, rfl, ?_⟩; have n0_ := Aside0.mk (Kd.R_below (by (with_reducible repeat first | apply Kd.R_alloc | apply Kd.R_drewN | apply Kd.R_drew); exact HO_3.out) hb); have n1_ := Aside0.mk (Kd.R_below (by (with_reducible repeat first | apply Kd.R_alloc | apply Kd.R_drewN | apply Kd.R_drew); exact HO_5.out) hb); have n2_ := Aside0.mk (blk_below (g := gb587) (o := .cells #[.int .i64 a0_0, .slice A0_1 l0_1.length c0_1, .slice A0_2 l0_2.length c0_2] 31 (0, 0)) (by (with_reducible repeat first | apply blk_drewN | apply blk_drew | apply blk_alloc); exact BK587.out) hb); have n3_ := Aside0.mk (below_step (by repeat (first | (with_reducible first | exact HB.out | apply below_alloc | apply pw_below_drewN | apply below_drew1 | refine below_set ?_ GE587.out) | exact HB.out)) hb); clear HO_3; clear HO_5; clear BK587; clear HB; have HO_3 := n0_; have HO_5 := n1_; have BK587 := n2_; have HB := n3_; clear n0_ n1_ n2_ n3_; (try clear hb); (try clear hb2); (try clear hk); (try clear hi)))
     go_ret
     exact ⟨by first | rfl | (simp [errW_none, errW_some] <;> rfl) | (simp [*, errW_none, errW_some] <;> rfl), by repeat (first | (with_reducible first | exact HB.out | apply below_alloc | apply pw_below_drewN | apply below_drew1 | refine below_set ?_ GE587.out) | exact HB.out)⟩
    rw [if_pos c17] at H
    have c17b0 : decide (x6_2 < (t588.length : Int)) = true := decide_eq_true c17
    clear c17
    replace H := Option.bind_eq_some_iff.mp H
    obtain ⟨⟨t597, t598⟩, A180, H⟩ := H
    replace H : (if t598 = 0 then (if 0 ≤ x6_2 then (if t597 = (rd t588 x6_2) then ((section_Next.f k2 l0_1 x5_2).bind fun bt600 => (if (bt600.1 != (decide (x6_2 < (wrap64 ((t588.length : Int) - 1))))) = true then (some false) else (quadratlaw06_SectionWalks.l0 k2 t588 bt600.2 (wrap64 (x6_2 + 1)) a0_0 l0_1 l0_2))) else (some false)) else (none)) else (some false)) = some r := H
    have A18 := Aside0.mk A180
    clear A180
    by_cases c19 : t598 = 0
    case neg =>
     rw [if_neg c19] at H
     have c19b0 : (t598 == 0) = false := beq_eq_false_iff_ne.mpr c19
     have c19b1 : (t598 != 0) = true := bne_iff_ne.mpr c19
     exact absurd (Eq.trans H (congrArg some HR9.out)) (by simp)
    rw [if_pos c19] at H
    have c19b0 : (t598 == 0) = true := beq_iff_eq.mpr c19
    have c19b1 : (t598 != 0) = false := bne_eq_false_iff_eq.mpr c19
    clear c19
    by_cases c20 : 0 ≤ x6_2
    case neg =>
     rw [if_neg c20] at H
     exact absurd H (by simp)
    rw [if_pos c20] at H
    have c20b0 : decide (0 ≤ x6_2) = true := decide_eq_true c20
    clear c20
    by_cases c21 : t597 = (rd t588 x6_2)
    case neg =>
     rw [if_neg c21] at H
     have c21b0 : (t597 == (rd t588 x6_2)) = false := beq_eq_false_iff_ne.mpr c21
     have c21b1 : (t597 != (rd t588 x6_2)) = true := bne_iff_ne.mpr c21
     exact absurd (Eq.trans H (congrArg some HR9.out)) (by simp)
    rw [if_pos c21] at H
    have c21b0 : (t597 == (rd t588 x6_2)) = true := beq_iff_eq.mpr c21
    have c21b1 : (t597 != (rd t588 x6_2)) = false := bne_eq_false_iff_eq.mpr c21
    clear c21
    replace H := Option.bind_eq_some_iff.mp H
    obtain ⟨⟨t600, t601⟩, A220, H⟩ := H
    replace H : (if (t600 != (decide (x6_2 < (wrap64 ((t588.length : Int) - 1))))) = true then (some false) else (quadratlaw06_SectionWalks.l0 k2 t588 t601 (wrap64 (x6_2 + 1)) a0_0 l0_1 l0_2)) = some r := H
    have A22 := Aside0.mk A220
    clear A220
    by_cases c23 : (t600 != (decide (x6_2 < (wrap64 ((t588.length : Int) - 1))))) = true
    case pos =>
     rw [if_pos c23] at H
     have c23b0 : (t600 != (decide (x6_2 < (wrap64 ((t588.length : Int) - 1))))) = true := c23
     (try (have c23b1 : decide (t600 = (decide (x6_2 < (wrap64 ((t588.length : Int) - 1))))) = false := by simpa using c23))
     (try (have c23b2 : (t600 == (decide (x6_2 < (wrap64 ((t588.length : Int) - 1))))) = false := by simpa using c23))
     (try (have c23b3 : ¬ (t600 = (decide (x6_2 < (wrap64 ((t588.length : Int) - 1))))) := by simpa using c23))
     clear c23
     exact absurd (Eq.trans H (congrArg some HR9.out)) (by simp)
    rw [if_neg c23] at H
    have c23b0 : (t600 != (decide (x6_2 < (wrap64 ((t588.length : Int) - 1))))) = false := by simpa using c23
    (try (have c23b1 : decide (t600 = (decide (x6_2 < (wrap64 ((t588.length : Int) - 1))))) = true := by simpa using c23))
    (try (have c23b2 : (t600 == (decide (x6_2 < (wrap64 ((t588.length : Int) - 1))))) = true := by simpa using c23))
    clear c23
    have H' := Aside0.mk H
    clear H
    obtain ⟨Ao24, co24, eo24⟩ := Kd.R_slice HO_3.out
    subst eo24
    have hcz25_0 : wr.cell? ⟨gb587, 0, none⟩ = some (.int .i64 a0_0) := (blk_cell BK587.out 0).trans rfl
    have hcz25_1 : wr.cell? ⟨gb587, 1, none⟩ = some (.slice A0_1 l0_1.length c0_1) := (blk_cell BK587.out 1).trans rfl
    have hcz25_2 : wr.cell? ⟨gb587, 2, none⟩ = some (.slice A0_2 l0_2.length c0_2) := (blk_cell BK587.out 2).trans rfl
    have hfz25_0 := blk_frozen BK587.out 0
    have hfz25_1 := blk_frozen BK587.out 1
    have hfz25_2 := blk_frozen BK587.out 2
    obtain ⟨Ao26, co26, eo26⟩ := Kd.R_slice HO_5.out
    subst eo26
    go_wp2_with (first | ((with_reducible refine gate_callee (f := 18) rfl ?_); refine goesL_ (some 35) rfl rfl Try.func18 (by kernel_rfl) rfl #[.agg #[.int .i64 a0_0, .slice A0_1 l0_1.length c0_1, .slice A0_2 l0_2.length c0_2], .slice Ao26 x5_2.length co26] rfl (by (try simp only [List.map_toArray, List.map_cons, List.map_nil]); first | done | rfl | (simp only [List.length_drop, List.length_take]; rfl)) ?_; (with_reducible refine (section_At.calls k2 a0_0 _ _ l0_1 _ _ l0_2 _ _ x5_2 t597 t598 _ ?side1 ?side2 ?side3 ?side4 ?side5 ?side6 A18.out).mono ?_); (case side1 => repeat (first | exact (Kd.C_below HR0_1.out HB.out) | (with_reducible refine Kd.C_alloc ?_ _) | (with_reducible refine Kd.C_drewN ?_ _) | (with_reducible refine Kd.C_drew ?_))); (case side2 => exact HC0_1.out); (case side3 => repeat (first | exact (Kd.C_below HR0_2.out HB.out) | (with_reducible refine Kd.C_alloc ?_ _) | (with_reducible refine Kd.C_drewN ?_ _) | (with_reducible refine Kd.C_drew ?_))); (case side4 => exact HC0_2.out); (case side5 => repeat (first | exact (Kd.R_reads' HO_5.out).2.2 | (with_reducible refine Kd.C_alloc ?_ _) | (with_reducible refine Kd.C_drewN ?_ _) | (with_reducible refine Kd.C_drew ?_))); (case side6 => exact (Kd.R_reads' HO_5.out).2.1); rintro e w27 ⟨rfl, hb⟩; refine ⟨_, rfl, ?_⟩; have n0_ := Aside0.mk (Kd.R_below (by (with_reducible repeat first | apply Kd.R_alloc | apply Kd.R_drewN | apply Kd.R_drew); exact HO_3.out) hb); have n1_ := Aside0.mk (Kd.R_below (by (with_reducible repeat first | apply Kd.R_alloc | apply Kd.R_drewN | apply Kd.R_drew); exact HO_5.out) hb); have n2_ := Aside0.mk (blk_below (g := gb587) (o := .cells #[.int .i64 a0_0, .slice A0_1 l0_1.length c0_1, .slice A0_2 l0_2.length c0_2] 31 (0, 0)) (by (with_reducible repeat first | apply blk_drewN | apply blk_drew | apply blk_alloc); exact BK587.out) hb); have n3_ := Aside0.mk (below_step (by repeat (first | (with_reducible first | exact HB.out | apply below_alloc | apply pw_below_drewN | apply below_drew1 | refine below_set ?_ GE587.out) | exact HB.out)) hb); clear HO_3; clear HO_5; clear BK587; clear HB; have HO_3 := n0_; have HO_5 := n1_; have BK587 := n2_; have HB := n3_; clear n0_ n1_ n2_ n3_; (try clear hb); (try clear hb2); (try clear hk); (try clear hi); have p599 : 0 ≤ (x6_2 : Int) := of_decide_eq_true (by first | (with_reducible assumption) | assumption); have q599 : x6_2 < (t588.length : Int) := of_decide_eq_true (by first | (with_reducible assumption) | assumption); obtain ⟨ad599, e599, hx599_0⟩ := Kd.at_int (Kd.R_reads' HO_3.out).2.2 x6_2 p599 q599; cases e599; replace p599 := eq_true p599; replace q599 := eq_true q599; have hcz28_0 : w27.cell? ⟨gb587, 0, none⟩ = some (.int .i64 a0_0) := (blk_cell BK587.out 0).trans rfl; have hcz28_1 : w27.cell? ⟨gb587, 1, none⟩ = some (.slice A0_1 l0_1.length c0_1) := (blk_cell BK587.out 1).trans rfl; have hcz28_2 : w27.cell? ⟨gb587, 2, none⟩ = some (.slice A0_2 l0_2.length c0_2) := (blk_cell BK587.out 2).trans rfl; have hfz28_0 := blk_frozen BK587.out 0; have hfz28_1 := blk_frozen BK587.out 1; have hfz28_2 := blk_frozen BK587.out 2) | (go_at_call 20; (with_reducible refine (section_Next.calls k2 _ _ l0_1 (fun k_ => some k_ = (.slice Ao26 x5_2.length co26 : Value).ownBlock) (.slice Ao26 x5_2.length co26) x5_2 t600 t601 w _ ?side1 ?side2 ?side3 ?side4 A22.out).mono ?_); (case side1 => repeat (first | (with_reducible first | exact HB.out | apply below_alloc | apply pw_below_drewN | apply below_drew1 | refine below_set ?_ GE587.out) | exact HB.out)); (case side2 => exact Kd.C_kept_came (Kd.heap_int .i64) HR0_1.out (by repeat (first | (with_reducible first | exact HB.out | apply below_alloc | apply pw_below_drewN | apply below_drew1 | refine below_set ?_ GE587.out) | exact HB.out)) (fun k_ hs_ => (fun e_ => Kd.R_base HO_5.out k_ e_.symm) hs_)); (case side3 => exact HC0_1.out); (case side4 => exact Kd.R_tight rfl HO_5.out); rintro e w29 ⟨rfl, hy0, hb, hkp⟩; have n0_ := Aside0.mk (Kd.R_mono (ok' := fun k_ => some k_ ≠ (.slice Ao26 x5_2.length co26 : Value).ownBlock) (Kd.R_keptB (HO_3.out) hkp (fun k_ hk_ hs_ => (hk_) hs_)) (fun k_ hk_ => hk_.1)); have n1_ := Aside0.mk (Kd.R_reok rfl hy0 (fun k_ e_ => HO_5.out.1 k_ e_)); have n2_ := Aside0.mk (blk_kept (by (with_reducible repeat first | apply blk_drewN | apply blk_drew | apply blk_alloc); exact BK587.out) hkp (fun hs_ => (fun e_ => (Kd.R_ne HO_5.out BK587.out (by decide)) e_) hs_)); have n3_ := Aside0.mk (hb); clear HO_3; clear HO_5; clear BK587; clear HB; have HO_3 := n0_; have HO_5 := n1_; have BK587 := n2_; have HB := n3_; clear n0_ n1_ n2_ n3_; (try clear hb); (try clear hkp); (try clear hy0)))
    go_roundg k2
    case measure => have := HJ2.out; have := HK2.out; omega
    case rel => exact ⟨(t601), (wrap64 (x6_2 + 1)), (by first | rfl | (simp; done) | (simp [*]; done)), H', ⟨by have := HJ2.out; have := HK2.out; omega⟩, ⟨by (with_reducible repeat first | apply Kd.R_alloc | apply Kd.R_drewN | apply Kd.R_drew); exact HO_3.out⟩, ⟨by (with_reducible repeat first | apply Kd.R_alloc | apply Kd.R_drewN | apply Kd.R_drew); exact HO_5.out⟩, ⟨by (with_reducible repeat first | apply blk_drewN | apply blk_drew | apply blk_alloc); exact BK587.out⟩, ⟨by repeat (first | (with_reducible first | exact HB.out | apply below_alloc | apply pw_below_drewN | apply below_drew1 | refine below_set ?_ GE587.out) | exact HB.out)⟩⟩

end Go.Proofs.Yticjlkommabcjaa.PS
