-- Printed by wip/qprint.py of this repository, over the kit's print, out of the translation. Not trusted: Lean checks it.
import Derived.Test.YticjlkommabcjaaPSx0
import Derived.Test.YticjlkommabcjaaPSx5
import Derived.Test.YticjlkommabcjaaPSx8
import Derived.Test.YticjlkommabcjaaPSx9
import Derived.Test.YticjlkommabcjaaPSx13
import Derived.Test.YticjlkommabcjaaPSx16
import Derived.Test.YticjlkommabcjaaPSx24
import Derived.Test.YticjlkommabcjaaPSx25
import Derived.Test.YticjlkommabcjaaPSx26
import Derived.Test.YticjlkommabcjaaPSx27
namespace Go.Proofs.Yticjlkommabcjaa.PS
open Go.RowKit Go.Proofs.YticjlkommabcjaaW.PrintWords Go.Proofs.YticjlkommabcjaaW.PrintLast Go.Proofs.YticjlkommabcjaaW.PrintMore
attribute [local go_sem] max2_int min2_int max_two min_two max_three min_three max_four min_four   -- for this text's walks alone
set_option linter.unusedVariables false
set_option linter.unusedSimpArgs false
set_option maxRecDepth 100000

/-! ### quadratlaw06_SectionPlaces: function 7 -/
def quadratlaw06_SectionPlaces.j0 : Nat → List Int → Bool → Option (Bool)
  | 0, _, _ => none
  | k + 1, x1, x94 => if x94 = true then (some false) else ((section_Whole.f k x1).bind fun bt420 => ((quadratref06_Whole.f k x1).bind fun bt429 => ((quadratref06_Same.f k bt420.1 bt420.2.1 bt420.2.2.1 bt429.1 bt429.2.1 bt429.2.2.1).bind fun t438 => (if t438 = true then (if bt420.2.2.2 = bt429.2.2.2 then ((quadratlaw06_Awake.f k).bind fun t439 => (some t439)) else (some false)) else (some false)))))
def quadratlaw06_SectionPlaces.f (k : Nat) (a0_0 : Int) (l0_1 : List Int) (l0_2 : List Int) (l1 : List Int) : Option (Bool) := (section_Valid.f k a0_0 l0_1 l0_2).bind fun t401 => ((quadratref06_Valid.f k a0_0 l0_1 l0_2).bind fun t402 => (if (t401 != t402) = true then (some false) else ((section_Places.f k a0_0 l0_1 l0_2).bind fun bt403 => ((quadratref06_Places.f k a0_0 l0_1 l0_2).bind fun bt407 => ((section_Size.f k a0_0 l0_1 l0_2).bind fun bt411 => ((quadratref06_Size.f k a0_0 l0_1 l0_2).bind fun bt413 => ((section_Contiguous.f k a0_0 l0_1 l0_2).bind fun bt415 => ((quadratref06_Contiguous.f k a0_0 l0_1 l0_2).bind fun bt417 => ((quadratref06_SameInts.f k bt403.1 bt407.1).bind fun t419 => (if t419 = true then (if bt403.2 = bt407.2 then (if bt411.1 = bt413.1 then (if bt411.2 = bt413.2 then (if (bt415.1 != bt417.1) = true then (quadratlaw06_SectionPlaces.j0 k l1 true) else (if bt415.2 = bt417.2 then (if bt403.2 = 0 then (quadratlaw06_SectionPlaces.j0 k l1 (bt411.1 != (bt403.1.length : Int))) else (quadratlaw06_SectionPlaces.j0 k l1 false)) else (quadratlaw06_SectionPlaces.j0 k l1 true))) else (quadratlaw06_SectionPlaces.j0 k l1 true)) else (quadratlaw06_SectionPlaces.j0 k l1 true)) else (quadratlaw06_SectionPlaces.j0 k l1 true)) else (quadratlaw06_SectionPlaces.j0 k l1 true)))))))))))
set_option maxHeartbeats 8000000 in
set_option maxRecDepth 100000 in
theorem quadratlaw06_SectionPlaces.calls (k : Nat) (a0_0 : Int) (A0_1 : Option Addr) (c0_1 : Nat) (l0_1 : List Int) (A0_2 : Option Addr) (c0_2 : Nat) (l0_2 : List Int) (A1 : Option Addr) (c1 : Nat) (l1 : List Int) (r : Bool) (w : World) (hr0_1 : Kd.C (Kd.int .i64) w A0_1 l0_1.length l0_1) (hc0_1 : l0_1.length ≤ c0_1) (hr0_2 : Kd.C (Kd.int .i64) w A0_2 l0_2.length l0_2) (hc0_2 : l0_2.length ≤ c0_2) (hr1 : Kd.C (Kd.int .i64) w A1 l1.length l1) (hc1 : l1.length ≤ c1) (hr9 : r = true) (h : quadratlaw06_SectionPlaces.f k a0_0 l0_1 l0_2 l1 = some r) :
    Calls Try.prog 7 #[.agg #[.int .i64 a0_0, .slice A0_1 l0_1.length c0_1, .slice A0_2 l0_2.length c0_2], .slice A1 l1.length c1] w fun e w' => e = .returned (.bool r) ∧ Below w.heap.size w w' := by
  have hu31 := Try.underlying31
  have HR9 := Aside0.mk hr9
  clear hr9
  have HR0_1 := Aside0.mk hr0_1
  have HC0_1 := Aside0.mk hc0_1
  clear hr0_1 hc0_1
  have HR0_2 := Aside0.mk hr0_2
  have HC0_2 := Aside0.mk hc0_2
  clear hr0_2 hc0_2
  have HR1 := Aside0.mk hr1
  have HC1 := Aside0.mk hc1
  clear hr1 hc1
  have HB := Aside0.mk (Below.refl w.heap.size w)
  have H : ((section_Valid.f k a0_0 l0_1 l0_2).bind fun t401 => ((quadratref06_Valid.f k a0_0 l0_1 l0_2).bind fun t402 => (if (t401 != t402) = true then (some false) else ((section_Places.f k a0_0 l0_1 l0_2).bind fun bt403 => ((quadratref06_Places.f k a0_0 l0_1 l0_2).bind fun bt407 => ((section_Size.f k a0_0 l0_1 l0_2).bind fun bt411 => ((quadratref06_Size.f k a0_0 l0_1 l0_2).bind fun bt413 => ((section_Contiguous.f k a0_0 l0_1 l0_2).bind fun bt415 => ((quadratref06_Contiguous.f k a0_0 l0_1 l0_2).bind fun bt417 => ((quadratref06_SameInts.f k bt403.1 bt407.1).bind fun t419 => (if t419 = true then (if bt403.2 = bt407.2 then (if bt411.1 = bt413.1 then (if bt411.2 = bt413.2 then (if (bt415.1 != bt417.1) = true then (quadratlaw06_SectionPlaces.j0 k l1 true) else (if bt415.2 = bt417.2 then (if bt403.2 = 0 then (quadratlaw06_SectionPlaces.j0 k l1 (bt411.1 != (bt403.1.length : Int))) else (quadratlaw06_SectionPlaces.j0 k l1 false)) else (quadratlaw06_SectionPlaces.j0 k l1 true))) else (quadratlaw06_SectionPlaces.j0 k l1 true)) else (quadratlaw06_SectionPlaces.j0 k l1 true)) else (quadratlaw06_SectionPlaces.j0 k l1 true)) else (quadratlaw06_SectionPlaces.j0 k l1 true)))))))))))) = some r := h
  clear h
  replace H := Option.bind_eq_some_iff.mp H
  obtain ⟨t401, A30, H⟩ := H
  replace H : ((quadratref06_Valid.f k a0_0 l0_1 l0_2).bind fun t402 => (if (t401 != t402) = true then (some false) else ((section_Places.f k a0_0 l0_1 l0_2).bind fun bt403 => ((quadratref06_Places.f k a0_0 l0_1 l0_2).bind fun bt407 => ((section_Size.f k a0_0 l0_1 l0_2).bind fun bt411 => ((quadratref06_Size.f k a0_0 l0_1 l0_2).bind fun bt413 => ((section_Contiguous.f k a0_0 l0_1 l0_2).bind fun bt415 => ((quadratref06_Contiguous.f k a0_0 l0_1 l0_2).bind fun bt417 => ((quadratref06_SameInts.f k bt403.1 bt407.1).bind fun t419 => (if t419 = true then (if bt403.2 = bt407.2 then (if bt411.1 = bt413.1 then (if bt411.2 = bt413.2 then (if (bt415.1 != bt417.1) = true then (quadratlaw06_SectionPlaces.j0 k l1 true) else (if bt415.2 = bt417.2 then (if bt403.2 = 0 then (quadratlaw06_SectionPlaces.j0 k l1 (bt411.1 != (bt403.1.length : Int))) else (quadratlaw06_SectionPlaces.j0 k l1 false)) else (quadratlaw06_SectionPlaces.j0 k l1 true))) else (quadratlaw06_SectionPlaces.j0 k l1 true)) else (quadratlaw06_SectionPlaces.j0 k l1 true)) else (quadratlaw06_SectionPlaces.j0 k l1 true)) else (quadratlaw06_SectionPlaces.j0 k l1 true))))))))))) = some r := H
  have A3 := Aside0.mk A30
  clear A30
  replace H := Option.bind_eq_some_iff.mp H
  obtain ⟨t402, A40, H⟩ := H
  replace H : (if (t401 != t402) = true then (some false) else ((section_Places.f k a0_0 l0_1 l0_2).bind fun bt403 => ((quadratref06_Places.f k a0_0 l0_1 l0_2).bind fun bt407 => ((section_Size.f k a0_0 l0_1 l0_2).bind fun bt411 => ((quadratref06_Size.f k a0_0 l0_1 l0_2).bind fun bt413 => ((section_Contiguous.f k a0_0 l0_1 l0_2).bind fun bt415 => ((quadratref06_Contiguous.f k a0_0 l0_1 l0_2).bind fun bt417 => ((quadratref06_SameInts.f k bt403.1 bt407.1).bind fun t419 => (if t419 = true then (if bt403.2 = bt407.2 then (if bt411.1 = bt413.1 then (if bt411.2 = bt413.2 then (if (bt415.1 != bt417.1) = true then (quadratlaw06_SectionPlaces.j0 k l1 true) else (if bt415.2 = bt417.2 then (if bt403.2 = 0 then (quadratlaw06_SectionPlaces.j0 k l1 (bt411.1 != (bt403.1.length : Int))) else (quadratlaw06_SectionPlaces.j0 k l1 false)) else (quadratlaw06_SectionPlaces.j0 k l1 true))) else (quadratlaw06_SectionPlaces.j0 k l1 true)) else (quadratlaw06_SectionPlaces.j0 k l1 true)) else (quadratlaw06_SectionPlaces.j0 k l1 true)) else (quadratlaw06_SectionPlaces.j0 k l1 true)))))))))) = some r := H
  have A4 := Aside0.mk A40
  clear A40
  by_cases c5 : (t401 != t402) = true
  case pos =>
   rw [if_pos c5] at H
   have c5b0 : (t401 != t402) = true := c5
   (try (have c5b1 : decide (t401 = t402) = false := by simpa using c5))
   (try (have c5b2 : (t401 == t402) = false := by simpa using c5))
   (try (have c5b3 : ¬ (t401 = t402) := by simpa using c5))
   clear c5
   exact absurd (Eq.trans H (congrArg some HR9.out)) (by simp)
  rw [if_neg c5] at H
  have c5b0 : (t401 != t402) = false := by simpa using c5
  (try (have c5b1 : decide (t401 = t402) = true := by simpa using c5))
  (try (have c5b2 : (t401 == t402) = true := by simpa using c5))
  clear c5
  replace H := Option.bind_eq_some_iff.mp H
  obtain ⟨⟨t403, t406⟩, A60, H⟩ := H
  replace H : ((quadratref06_Places.f k a0_0 l0_1 l0_2).bind fun bt407 => ((section_Size.f k a0_0 l0_1 l0_2).bind fun bt411 => ((quadratref06_Size.f k a0_0 l0_1 l0_2).bind fun bt413 => ((section_Contiguous.f k a0_0 l0_1 l0_2).bind fun bt415 => ((quadratref06_Contiguous.f k a0_0 l0_1 l0_2).bind fun bt417 => ((quadratref06_SameInts.f k t403 bt407.1).bind fun t419 => (if t419 = true then (if t406 = bt407.2 then (if bt411.1 = bt413.1 then (if bt411.2 = bt413.2 then (if (bt415.1 != bt417.1) = true then (quadratlaw06_SectionPlaces.j0 k l1 true) else (if bt415.2 = bt417.2 then (if t406 = 0 then (quadratlaw06_SectionPlaces.j0 k l1 (bt411.1 != (t403.length : Int))) else (quadratlaw06_SectionPlaces.j0 k l1 false)) else (quadratlaw06_SectionPlaces.j0 k l1 true))) else (quadratlaw06_SectionPlaces.j0 k l1 true)) else (quadratlaw06_SectionPlaces.j0 k l1 true)) else (quadratlaw06_SectionPlaces.j0 k l1 true)) else (quadratlaw06_SectionPlaces.j0 k l1 true)))))))) = some r := H
  have A6 := Aside0.mk A60
  clear A60
  replace H := Option.bind_eq_some_iff.mp H
  obtain ⟨⟨t407, t410⟩, A70, H⟩ := H
  replace H : ((section_Size.f k a0_0 l0_1 l0_2).bind fun bt411 => ((quadratref06_Size.f k a0_0 l0_1 l0_2).bind fun bt413 => ((section_Contiguous.f k a0_0 l0_1 l0_2).bind fun bt415 => ((quadratref06_Contiguous.f k a0_0 l0_1 l0_2).bind fun bt417 => ((quadratref06_SameInts.f k t403 t407).bind fun t419 => (if t419 = true then (if t406 = t410 then (if bt411.1 = bt413.1 then (if bt411.2 = bt413.2 then (if (bt415.1 != bt417.1) = true then (quadratlaw06_SectionPlaces.j0 k l1 true) else (if bt415.2 = bt417.2 then (if t406 = 0 then (quadratlaw06_SectionPlaces.j0 k l1 (bt411.1 != (t403.length : Int))) else (quadratlaw06_SectionPlaces.j0 k l1 false)) else (quadratlaw06_SectionPlaces.j0 k l1 true))) else (quadratlaw06_SectionPlaces.j0 k l1 true)) else (quadratlaw06_SectionPlaces.j0 k l1 true)) else (quadratlaw06_SectionPlaces.j0 k l1 true)) else (quadratlaw06_SectionPlaces.j0 k l1 true))))))) = some r := H
  have A7 := Aside0.mk A70
  clear A70
  replace H := Option.bind_eq_some_iff.mp H
  obtain ⟨⟨t411, t412⟩, A80, H⟩ := H
  replace H : ((quadratref06_Size.f k a0_0 l0_1 l0_2).bind fun bt413 => ((section_Contiguous.f k a0_0 l0_1 l0_2).bind fun bt415 => ((quadratref06_Contiguous.f k a0_0 l0_1 l0_2).bind fun bt417 => ((quadratref06_SameInts.f k t403 t407).bind fun t419 => (if t419 = true then (if t406 = t410 then (if t411 = bt413.1 then (if t412 = bt413.2 then (if (bt415.1 != bt417.1) = true then (quadratlaw06_SectionPlaces.j0 k l1 true) else (if bt415.2 = bt417.2 then (if t406 = 0 then (quadratlaw06_SectionPlaces.j0 k l1 (t411 != (t403.length : Int))) else (quadratlaw06_SectionPlaces.j0 k l1 false)) else (quadratlaw06_SectionPlaces.j0 k l1 true))) else (quadratlaw06_SectionPlaces.j0 k l1 true)) else (quadratlaw06_SectionPlaces.j0 k l1 true)) else (quadratlaw06_SectionPlaces.j0 k l1 true)) else (quadratlaw06_SectionPlaces.j0 k l1 true)))))) = some r := H
  have A8 := Aside0.mk A80
  clear A80
  replace H := Option.bind_eq_some_iff.mp H
  obtain ⟨⟨t413, t414⟩, A90, H⟩ := H
  replace H : ((section_Contiguous.f k a0_0 l0_1 l0_2).bind fun bt415 => ((quadratref06_Contiguous.f k a0_0 l0_1 l0_2).bind fun bt417 => ((quadratref06_SameInts.f k t403 t407).bind fun t419 => (if t419 = true then (if t406 = t410 then (if t411 = t413 then (if t412 = t414 then (if (bt415.1 != bt417.1) = true then (quadratlaw06_SectionPlaces.j0 k l1 true) else (if bt415.2 = bt417.2 then (if t406 = 0 then (quadratlaw06_SectionPlaces.j0 k l1 (t411 != (t403.length : Int))) else (quadratlaw06_SectionPlaces.j0 k l1 false)) else (quadratlaw06_SectionPlaces.j0 k l1 true))) else (quadratlaw06_SectionPlaces.j0 k l1 true)) else (quadratlaw06_SectionPlaces.j0 k l1 true)) else (quadratlaw06_SectionPlaces.j0 k l1 true)) else (quadratlaw06_SectionPlaces.j0 k l1 true))))) = some r := H
  have A9 := Aside0.mk A90
  clear A90
  replace H := Option.bind_eq_some_iff.mp H
  obtain ⟨⟨t415, t416⟩, A100, H⟩ := H
  replace H : ((quadratref06_Contiguous.f k a0_0 l0_1 l0_2).bind fun bt417 => ((quadratref06_SameInts.f k t403 t407).bind fun t419 => (if t419 = true then (if t406 = t410 then (if t411 = t413 then (if t412 = t414 then (if (t415 != bt417.1) = true then (quadratlaw06_SectionPlaces.j0 k l1 true) else (if t416 = bt417.2 then (if t406 = 0 then (quadratlaw06_SectionPlaces.j0 k l1 (t411 != (t403.length : Int))) else (quadratlaw06_SectionPlaces.j0 k l1 false)) else (quadratlaw06_SectionPlaces.j0 k l1 true))) else (quadratlaw06_SectionPlaces.j0 k l1 true)) else (quadratlaw06_SectionPlaces.j0 k l1 true)) else (quadratlaw06_SectionPlaces.j0 k l1 true)) else (quadratlaw06_SectionPlaces.j0 k l1 true)))) = some r := H
  have A10 := Aside0.mk A100
  clear A100
  replace H := Option.bind_eq_some_iff.mp H
  obtain ⟨⟨t417, t418⟩, A110, H⟩ := H
  replace H : ((quadratref06_SameInts.f k t403 t407).bind fun t419 => (if t419 = true then (if t406 = t410 then (if t411 = t413 then (if t412 = t414 then (if (t415 != t417) = true then (quadratlaw06_SectionPlaces.j0 k l1 true) else (if t416 = t418 then (if t406 = 0 then (quadratlaw06_SectionPlaces.j0 k l1 (t411 != (t403.length : Int))) else (quadratlaw06_SectionPlaces.j0 k l1 false)) else (quadratlaw06_SectionPlaces.j0 k l1 true))) else (quadratlaw06_SectionPlaces.j0 k l1 true)) else (quadratlaw06_SectionPlaces.j0 k l1 true)) else (quadratlaw06_SectionPlaces.j0 k l1 true)) else (quadratlaw06_SectionPlaces.j0 k l1 true))) = some r := H
  have A11 := Aside0.mk A110
  clear A110
  have HC12 := Aside0.mk H
  clear H
  go_enter Try.func7, Try.ntmps7
  try go_wp2_with (first | ((with_reducible refine gate_dst (N := 2) rfl ?_); (try (refine gate_guard (by rfl) ?_; dsimp only)); refine box_event ?hg (N := 2) ?hd (cs := #[.int .i64 a0_0, .slice A0_1 l0_1.length c0_1, .slice A0_2 l0_2.length c0_2]) (t := 31) ?hr ?_; (case hd => rfl); (case hg => rfl); (case hr => first | (go_simp; done) | (go_simp; rfl)); intro gb400 hg w13 hbox hb; have n0_ := Aside0.mk (below_step (by repeat (first | (with_reducible first | exact HB.out | apply below_alloc | apply pw_below_drewN | apply below_drew1) | exact HB.out)) hb); have n1_ := Aside0.mk (hbox); have n2_ := Aside0.mk ((by rw [hg]; exact (below_size (by repeat (first | (with_reducible first | exact HB.out | apply below_alloc | apply pw_below_drewN | apply below_drew1) | exact HB.out))) : w.heap.size ≤ gb400)); have n3_ := Aside0.mk ((by rw [hg]; exact (below_size (by repeat (first | (with_reducible first | exact HB.out | apply below_alloc | apply pw_below_drewN | apply below_drew1) | exact HB.out))) : w.heap.size ≤ gb400)); clear HB; have HB := n0_; have BK400 := n1_; have GW400 := n2_; have GE400 := n3_; clear n0_ n1_ n2_ n3_; clear hb hbox hg))
  have n0_ := Aside0.mk (blk_drew BK400.out)
  have n1_ := Aside0.mk (below_drew1 HB.out)
  clear BK400
  clear HB
  have BK400 := n0_
  have HB := n1_
  clear n0_ n1_
  refine start_ (n := 5) (S := fun w' => w'.cell? ⟨gb400, 0, none⟩ = some (.int .i64 a0_0) ∧ w'.cell? ⟨gb400, 1, none⟩ = some (.slice A0_1 l0_1.length c0_1) ∧ w'.cell? ⟨gb400, 2, none⟩ = some (.slice A0_2 l0_2.length c0_2)) (ds := []) #[false, false, false, false, false] (by kernel_rfl) rfl rfl ⟨(blk_cell BK400.out 0).trans rfl, (blk_cell BK400.out 1).trans rfl, (blk_cell BK400.out 2).trans rfl⟩ (fun hHeld => ?_)
  generalize w13.drew = w14 at BK400 HB hHeld ⊢
  refine take_ (i := 0) (N := some 21) (v := ?_) (a' := ?_) #[true, false, false, false, false] rfl rfl (by kernel_rfl) (fun _ _ _ h => h) (Or.inl ⟨by rfl, ?_⟩) hHeld ?_ ?_
  rotate_left
  · rintro w' ⟨s0, s1, s2⟩
    go_simp
    with_reducible rfl
  rotate_left
  · simp only [Act.put, List.setIfInBounds_toArray, List.set_cons_zero, List.set_cons_succ, i64_w, i32_w]; rfl
  refine take_ (i := 2) (N := some 23) (v := ?_) (a' := ?_) #[true, false, true, false, false] rfl rfl (by kernel_rfl) (fun _ _ _ h => h) (Or.inl ⟨by rfl, ?_⟩) hHeld ?_ ?_
  rotate_left
  · rintro w' ⟨s0, s1, s2⟩
    go_simp
    with_reducible rfl
  rotate_left
  · simp only [Act.put, List.setIfInBounds_toArray, List.set_cons_zero, List.set_cons_succ, i64_w, i32_w]; rfl
  refine one_ (i := 1) (N := some 22) #[true, true, true, false, false] rfl rfl (by kernel_rfl) (by decide) (fun K hK => ?_)
  refine goes_ Try.func23 (by kernel_rfl) rfl #[.agg #[.int .i64 a0_0, .slice A0_1 l0_1.length c0_1, .slice A0_2 l0_2.length c0_2]] (by rfl) rfl rfl (by (try simp only [List.map_toArray, List.map_cons, List.map_nil]); first | done | rfl | (simp only [List.length_drop, List.length_take]; rfl)) ?_
  with_reducible refine (section_Valid.calls k a0_0 _ _ l0_1 _ _ l0_2 t401 _ ?side1 ?side2 ?side3 ?side4 A3.out).mono ?_
  (case side1 => repeat (first | exact (Kd.C_below HR0_1.out HB.out) | (with_reducible refine Kd.C_alloc ?_ _) | (with_reducible refine Kd.C_drewN ?_ _) | (with_reducible refine Kd.C_drew ?_)))
  (case side2 => exact HC0_1.out)
  (case side3 => repeat (first | exact (Kd.C_below HR0_2.out HB.out) | (with_reducible refine Kd.C_alloc ?_ _) | (with_reducible refine Kd.C_drewN ?_ _) | (with_reducible refine Kd.C_drew ?_)))
  (case side4 => exact HC0_2.out)
  rintro e w15 ⟨rfl, hb⟩
  refine ⟨_, rfl, ?_⟩
  have n0_ := Aside0.mk (blk_below (g := gb400) (o := .cells #[.int .i64 a0_0, .slice A0_1 l0_1.length c0_1, .slice A0_2 l0_2.length c0_2] 31 (0, 0)) (by (with_reducible repeat first | apply blk_drewN | apply blk_drew | apply blk_alloc); exact BK400.out) hb)
  have n1_ := Aside0.mk (below_step (by repeat (first | (with_reducible first | exact HB.out | apply below_alloc | apply pw_below_drewN | apply below_drew1 | refine below_set ?_ GE400.out) | exact HB.out)) hb)
  clear BK400
  clear HB
  have BK400 := n0_
  have HB := n1_
  clear n0_ n1_
  (try clear hb)
  (try clear hb2)
  (try clear hk)
  (try clear hi)
  refine hK.out _ _ ⟨(blk_cell BK400.out 0).trans rfl, (blk_cell BK400.out 1).trans rfl, (blk_cell BK400.out 2).trans rfl⟩ (fun hHeld => ?_)
  clear hK K
  refine norm_ (a' := ?_) ?_ ?_
  rotate_left
  · show Act.put _ (some 22) _ = _
    simp only [Act.put, List.setIfInBounds_toArray, List.set_cons_zero, List.set_cons_succ, i64_w, i32_w]
    rfl
  refine one_ (i := 3) (N := some 24) #[true, true, true, true, false] rfl rfl (by kernel_rfl) (by decide) (fun K hK => ?_)
  refine goes_ Try.func24 (by kernel_rfl) rfl #[.agg #[.int .i64 a0_0, .slice A0_1 l0_1.length c0_1, .slice A0_2 l0_2.length c0_2]] (by rfl) rfl rfl (by (try simp only [List.map_toArray, List.map_cons, List.map_nil]); first | done | rfl | (simp only [List.length_drop, List.length_take]; rfl)) ?_
  with_reducible refine (quadratref06_Valid.calls k a0_0 _ _ l0_1 _ _ l0_2 t402 _ ?side1 ?side2 ?side3 ?side4 A4.out).mono ?_
  (case side1 => repeat (first | exact (Kd.C_below HR0_1.out HB.out) | (with_reducible refine Kd.C_alloc ?_ _) | (with_reducible refine Kd.C_drewN ?_ _) | (with_reducible refine Kd.C_drew ?_)))
  (case side2 => exact HC0_1.out)
  (case side3 => repeat (first | exact (Kd.C_below HR0_2.out HB.out) | (with_reducible refine Kd.C_alloc ?_ _) | (with_reducible refine Kd.C_drewN ?_ _) | (with_reducible refine Kd.C_drew ?_)))
  (case side4 => exact HC0_2.out)
  rintro e w16 ⟨rfl, hb⟩
  refine ⟨_, rfl, ?_⟩
  have n0_ := Aside0.mk (blk_below (g := gb400) (o := .cells #[.int .i64 a0_0, .slice A0_1 l0_1.length c0_1, .slice A0_2 l0_2.length c0_2] 31 (0, 0)) (by (with_reducible repeat first | apply blk_drewN | apply blk_drew | apply blk_alloc); exact BK400.out) hb)
  have n1_ := Aside0.mk (below_step (by repeat (first | (with_reducible first | exact HB.out | apply below_alloc | apply pw_below_drewN | apply below_drew1 | refine below_set ?_ GE400.out) | exact HB.out)) hb)
  clear BK400
  clear HB
  have BK400 := n0_
  have HB := n1_
  clear n0_ n1_
  (try clear hb)
  (try clear hb2)
  (try clear hk)
  (try clear hi)
  refine hK.out _ _ ⟨(blk_cell BK400.out 0).trans rfl, (blk_cell BK400.out 1).trans rfl, (blk_cell BK400.out 2).trans rfl⟩ (fun hHeld => ?_)
  clear hK K
  refine norm_ (a' := ?_) ?_ ?_
  rotate_left
  · show Act.put _ (some 24) _ = _
    simp only [Act.put, List.setIfInBounds_toArray, List.set_cons_zero, List.set_cons_succ, i64_w, i32_w]
    rfl
  refine pure_ (i := 4) (N := some 25) (v := ?_) (a' := ?_) #[true, true, true, true, true] rfl rfl (by kernel_rfl) (fun _ _ _ h => h) (Or.inl ⟨by rfl, ?_⟩) ?_ ?_
  rotate_left
  · intro w'; go_simp; with_reducible rfl
  rotate_left
  · simp only [Act.put, List.setIfInBounds_toArray, List.set_cons_zero, List.set_cons_succ, i64_w, i32_w]; rfl
  refine done_ (by kernel_rfl) ?_
  have hcz17_0 : w16.cell? ⟨gb400, 0, none⟩ = some (.int .i64 a0_0) := (blk_cell BK400.out 0).trans rfl
  have hcz17_1 : w16.cell? ⟨gb400, 1, none⟩ = some (.slice A0_1 l0_1.length c0_1) := (blk_cell BK400.out 1).trans rfl
  have hcz17_2 : w16.cell? ⟨gb400, 2, none⟩ = some (.slice A0_2 l0_2.length c0_2) := (blk_cell BK400.out 2).trans rfl
  have hfz17_0 := blk_frozen BK400.out 0
  have hfz17_1 := blk_frozen BK400.out 1
  have hfz17_2 := blk_frozen BK400.out 2
  go_upto_region 9 with (first | ((with_reducible refine gate_callee (f := 25) rfl ?_); refine goesL_ (some 28) rfl rfl Try.func25 (by kernel_rfl) rfl #[.agg #[.int .i64 a0_0, .slice A0_1 l0_1.length c0_1, .slice A0_2 l0_2.length c0_2]] rfl (by (try simp only [List.map_toArray, List.map_cons, List.map_nil]); first | done | rfl | (simp only [List.length_drop, List.length_take]; rfl)) ?_; (with_reducible refine (section_Places.calls k a0_0 _ _ l0_1 _ _ l0_2 t403 t406 _ ?side1 ?side2 ?side3 ?side4 A6.out).mono ?_); (case side1 => repeat (first | exact (Kd.C_below HR0_1.out HB.out) | (with_reducible refine Kd.C_alloc ?_ _) | (with_reducible refine Kd.C_drewN ?_ _) | (with_reducible refine Kd.C_drew ?_))); (case side2 => exact HC0_1.out); (case side3 => repeat (first | exact (Kd.C_below HR0_2.out HB.out) | (with_reducible refine Kd.C_alloc ?_ _) | (with_reducible refine Kd.C_drewN ?_ _) | (with_reducible refine Kd.C_drew ?_))); (case side4 => exact HC0_2.out); rintro e w18 ⟨v404, rfl, ho0, hb⟩; refine ⟨_, rfl, ?_⟩; have n0_ := Aside0.mk (Kd.R_lower ho0 (below_size (by repeat (first | (with_reducible first | exact HB.out | apply below_alloc | apply pw_below_drewN | apply below_drew1 | refine below_set ?_ GE400.out) | exact HB.out)))); have n1_ := Aside0.mk (blk_below (g := gb400) (o := .cells #[.int .i64 a0_0, .slice A0_1 l0_1.length c0_1, .slice A0_2 l0_2.length c0_2] 31 (0, 0)) (by (with_reducible repeat first | apply blk_drewN | apply blk_drew | apply blk_alloc); exact BK400.out) hb); have n2_ := Aside0.mk (below_step (by repeat (first | (with_reducible first | exact HB.out | apply below_alloc | apply pw_below_drewN | apply below_drew1 | refine below_set ?_ GE400.out) | exact HB.out)) hb); clear BK400; clear HB; have HO405 := n0_; have BK400 := n1_; have HB := n2_; clear n0_ n1_ n2_; (try clear hb); (try clear hb2); (try clear hk); (try clear hi); (try clear ho0); have hcz19_0 : w18.cell? ⟨gb400, 0, none⟩ = some (.int .i64 a0_0) := (blk_cell BK400.out 0).trans rfl; have hcz19_1 : w18.cell? ⟨gb400, 1, none⟩ = some (.slice A0_1 l0_1.length c0_1) := (blk_cell BK400.out 1).trans rfl; have hcz19_2 : w18.cell? ⟨gb400, 2, none⟩ = some (.slice A0_2 l0_2.length c0_2) := (blk_cell BK400.out 2).trans rfl; have hfz19_0 := blk_frozen BK400.out 0; have hfz19_1 := blk_frozen BK400.out 1; have hfz19_2 := blk_frozen BK400.out 2) | ((with_reducible refine gate_callee (f := 26) rfl ?_); refine goesL_ (some 33) rfl rfl Try.func26 (by kernel_rfl) rfl #[.agg #[.int .i64 a0_0, .slice A0_1 l0_1.length c0_1, .slice A0_2 l0_2.length c0_2]] rfl (by (try simp only [List.map_toArray, List.map_cons, List.map_nil]); first | done | rfl | (simp only [List.length_drop, List.length_take]; rfl)) ?_; (with_reducible refine (quadratref06_Places.calls k a0_0 _ _ l0_1 _ _ l0_2 t407 t410 _ ?side1 ?side2 ?side3 ?side4 A7.out).mono ?_); (case side1 => repeat (first | exact (Kd.C_below HR0_1.out HB.out) | (with_reducible refine Kd.C_alloc ?_ _) | (with_reducible refine Kd.C_drewN ?_ _) | (with_reducible refine Kd.C_drew ?_))); (case side2 => exact HC0_1.out); (case side3 => repeat (first | exact (Kd.C_below HR0_2.out HB.out) | (with_reducible refine Kd.C_alloc ?_ _) | (with_reducible refine Kd.C_drewN ?_ _) | (with_reducible refine Kd.C_drew ?_))); (case side4 => exact HC0_2.out); rintro e w20 ⟨v408, rfl, ho0, hb⟩; refine ⟨_, rfl, ?_⟩; have n0_ := Aside0.mk (Kd.R_elder' (by (with_reducible repeat first | apply Kd.R_alloc | apply Kd.R_drewN | apply Kd.R_drew); exact HO405.out) (Kd.R_base ho0) hb); have n1_ := Aside0.mk (Kd.R_lower (Kd.R_new' ho0 (Kd.R_lt (by (with_reducible repeat first | apply Kd.R_alloc | apply Kd.R_drewN | apply Kd.R_drew); exact HO405.out))) (below_size (by repeat (first | (with_reducible first | exact HB.out | apply below_alloc | apply pw_below_drewN | apply below_drew1 | refine below_set ?_ GE400.out) | exact HB.out)))); have n2_ := Aside0.mk (blk_below (g := gb400) (o := .cells #[.int .i64 a0_0, .slice A0_1 l0_1.length c0_1, .slice A0_2 l0_2.length c0_2] 31 (0, 0)) (by (with_reducible repeat first | apply blk_drewN | apply blk_drew | apply blk_alloc); exact BK400.out) hb); have n3_ := Aside0.mk (below_step (by repeat (first | (with_reducible first | exact HB.out | apply below_alloc | apply pw_below_drewN | apply below_drew1 | refine below_set ?_ GE400.out) | exact HB.out)) hb); clear HO405; clear BK400; clear HB; have HO405 := n0_; have HO409 := n1_; have BK400 := n2_; have HB := n3_; clear n0_ n1_ n2_ n3_; (try clear hb); (try clear hb2); (try clear hk); (try clear hi); (try clear ho0); have hcz21_0 : w20.cell? ⟨gb400, 0, none⟩ = some (.int .i64 a0_0) := (blk_cell BK400.out 0).trans rfl; have hcz21_1 : w20.cell? ⟨gb400, 1, none⟩ = some (.slice A0_1 l0_1.length c0_1) := (blk_cell BK400.out 1).trans rfl; have hcz21_2 : w20.cell? ⟨gb400, 2, none⟩ = some (.slice A0_2 l0_2.length c0_2) := (blk_cell BK400.out 2).trans rfl; have hfz21_0 := blk_frozen BK400.out 0; have hfz21_1 := blk_frozen BK400.out 1; have hfz21_2 := blk_frozen BK400.out 2) | ((with_reducible refine gate_callee (f := 27) rfl ?_); refine goesL_ (some 38) rfl rfl Try.func27 (by kernel_rfl) rfl #[.agg #[.int .i64 a0_0, .slice A0_1 l0_1.length c0_1, .slice A0_2 l0_2.length c0_2]] rfl (by (try simp only [List.map_toArray, List.map_cons, List.map_nil]); first | done | rfl | (simp only [List.length_drop, List.length_take]; rfl)) ?_; (with_reducible refine (section_Size.calls k a0_0 _ _ l0_1 _ _ l0_2 t411 t412 _ ?side1 ?side2 ?side3 ?side4 A8.out).mono ?_); (case side1 => repeat (first | exact (Kd.C_below HR0_1.out HB.out) | (with_reducible refine Kd.C_alloc ?_ _) | (with_reducible refine Kd.C_drewN ?_ _) | (with_reducible refine Kd.C_drew ?_))); (case side2 => exact HC0_1.out); (case side3 => repeat (first | exact (Kd.C_below HR0_2.out HB.out) | (with_reducible refine Kd.C_alloc ?_ _) | (with_reducible refine Kd.C_drewN ?_ _) | (with_reducible refine Kd.C_drew ?_))); (case side4 => exact HC0_2.out); rintro e w22 ⟨rfl, hb⟩; refine ⟨_, rfl, ?_⟩; have n0_ := Aside0.mk (Kd.R_below (by (with_reducible repeat first | apply Kd.R_alloc | apply Kd.R_drewN | apply Kd.R_drew); exact HO405.out) hb); have n1_ := Aside0.mk (Kd.R_below (by (with_reducible repeat first | apply Kd.R_alloc | apply Kd.R_drewN | apply Kd.R_drew); exact HO409.out) hb); have n2_ := Aside0.mk (blk_below (g := gb400) (o := .cells #[.int .i64 a0_0, .slice A0_1 l0_1.length c0_1, .slice A0_2 l0_2.length c0_2] 31 (0, 0)) (by (with_reducible repeat first | apply blk_drewN | apply blk_drew | apply blk_alloc); exact BK400.out) hb); have n3_ := Aside0.mk (below_step (by repeat (first | (with_reducible first | exact HB.out | apply below_alloc | apply pw_below_drewN | apply below_drew1 | refine below_set ?_ GE400.out) | exact HB.out)) hb); clear HO405; clear HO409; clear BK400; clear HB; have HO405 := n0_; have HO409 := n1_; have BK400 := n2_; have HB := n3_; clear n0_ n1_ n2_ n3_; (try clear hb); (try clear hb2); (try clear hk); (try clear hi); have hcz23_0 : w22.cell? ⟨gb400, 0, none⟩ = some (.int .i64 a0_0) := (blk_cell BK400.out 0).trans rfl; have hcz23_1 : w22.cell? ⟨gb400, 1, none⟩ = some (.slice A0_1 l0_1.length c0_1) := (blk_cell BK400.out 1).trans rfl; have hcz23_2 : w22.cell? ⟨gb400, 2, none⟩ = some (.slice A0_2 l0_2.length c0_2) := (blk_cell BK400.out 2).trans rfl; have hfz23_0 := blk_frozen BK400.out 0; have hfz23_1 := blk_frozen BK400.out 1; have hfz23_2 := blk_frozen BK400.out 2) | ((with_reducible refine gate_callee (f := 28) rfl ?_); refine goesL_ (some 43) rfl rfl Try.func28 (by kernel_rfl) rfl #[.agg #[.int .i64 a0_0, .slice A0_1 l0_1.length c0_1, .slice A0_2 l0_2.length c0_2]] rfl (by (try simp only [List.map_toArray, List.map_cons, List.map_nil]); first | done | rfl | (simp only [List.length_drop, List.length_take]; rfl)) ?_; (with_reducible refine (quadratref06_Size.calls k a0_0 _ _ l0_1 _ _ l0_2 t413 t414 _ ?side1 ?side2 ?side3 ?side4 A9.out).mono ?_); (case side1 => repeat (first | exact (Kd.C_below HR0_1.out HB.out) | (with_reducible refine Kd.C_alloc ?_ _) | (with_reducible refine Kd.C_drewN ?_ _) | (with_reducible refine Kd.C_drew ?_))); (case side2 => exact HC0_1.out); (case side3 => repeat (first | exact (Kd.C_below HR0_2.out HB.out) | (with_reducible refine Kd.C_alloc ?_ _) | (with_reducible refine Kd.C_drewN ?_ _) | (with_reducible refine Kd.C_drew ?_))); (case side4 => exact HC0_2.out); rintro e w24 ⟨rfl, hb⟩; refine ⟨_, rfl, ?_⟩; have n0_ := Aside0.mk (Kd.R_below (by (with_reducible repeat first | apply Kd.R_alloc | apply Kd.R_drewN | apply Kd.R_drew); exact HO405.out) hb); have n1_ := Aside0.mk (Kd.R_below (by (with_reducible repeat first | apply Kd.R_alloc | apply Kd.R_drewN | apply Kd.R_drew); exact HO409.out) hb); have n2_ := Aside0.mk (blk_below (g := gb400) (o := .cells #[.int .i64 a0_0, .slice A0_1 l0_1.length c0_1, .slice A0_2 l0_2.length c0_2] 31 (0, 0)) (by (with_reducible repeat first | apply blk_drewN | apply blk_drew | apply blk_alloc); exact BK400.out) hb); have n3_ := Aside0.mk (below_step (by repeat (first | (with_reducible first | exact HB.out | apply below_alloc | apply pw_below_drewN | apply below_drew1 | refine below_set ?_ GE400.out) | exact HB.out)) hb); clear HO405; clear HO409; clear BK400; clear HB; have HO405 := n0_; have HO409 := n1_; have BK400 := n2_; have HB := n3_; clear n0_ n1_ n2_ n3_; (try clear hb); (try clear hb2); (try clear hk); (try clear hi); have hcz25_0 : w24.cell? ⟨gb400, 0, none⟩ = some (.int .i64 a0_0) := (blk_cell BK400.out 0).trans rfl; have hcz25_1 : w24.cell? ⟨gb400, 1, none⟩ = some (.slice A0_1 l0_1.length c0_1) := (blk_cell BK400.out 1).trans rfl; have hcz25_2 : w24.cell? ⟨gb400, 2, none⟩ = some (.slice A0_2 l0_2.length c0_2) := (blk_cell BK400.out 2).trans rfl; have hfz25_0 := blk_frozen BK400.out 0; have hfz25_1 := blk_frozen BK400.out 1; have hfz25_2 := blk_frozen BK400.out 2) | ((with_reducible refine gate_callee (f := 29) rfl ?_); refine goesL_ (some 48) rfl rfl Try.func29 (by kernel_rfl) rfl #[.agg #[.int .i64 a0_0, .slice A0_1 l0_1.length c0_1, .slice A0_2 l0_2.length c0_2]] rfl (by (try simp only [List.map_toArray, List.map_cons, List.map_nil]); first | done | rfl | (simp only [List.length_drop, List.length_take]; rfl)) ?_; (with_reducible refine (section_Contiguous.calls k a0_0 _ _ l0_1 _ _ l0_2 t415 t416 _ ?side1 ?side2 ?side3 ?side4 A10.out).mono ?_); (case side1 => repeat (first | exact (Kd.C_below HR0_1.out HB.out) | (with_reducible refine Kd.C_alloc ?_ _) | (with_reducible refine Kd.C_drewN ?_ _) | (with_reducible refine Kd.C_drew ?_))); (case side2 => exact HC0_1.out); (case side3 => repeat (first | exact (Kd.C_below HR0_2.out HB.out) | (with_reducible refine Kd.C_alloc ?_ _) | (with_reducible refine Kd.C_drewN ?_ _) | (with_reducible refine Kd.C_drew ?_))); (case side4 => exact HC0_2.out); rintro e w26 ⟨rfl, hb⟩; refine ⟨_, rfl, ?_⟩; have n0_ := Aside0.mk (Kd.R_below (by (with_reducible repeat first | apply Kd.R_alloc | apply Kd.R_drewN | apply Kd.R_drew); exact HO405.out) hb); have n1_ := Aside0.mk (Kd.R_below (by (with_reducible repeat first | apply Kd.R_alloc | apply Kd.R_drewN | apply Kd.R_drew); exact HO409.out) hb); have n2_ := Aside0.mk (blk_below (g := gb400) (o := .cells #[.int .i64 a0_0, .slice A0_1 l0_1.length c0_1, .slice A0_2 l0_2.length c0_2] 31 (0, 0)) (by (with_reducible repeat first | apply blk_drewN | apply blk_drew | apply blk_alloc); exact BK400.out) hb); have n3_ := Aside0.mk (below_step (by repeat (first | (with_reducible first | exact HB.out | apply below_alloc | apply pw_below_drewN | apply below_drew1 | refine below_set ?_ GE400.out) | exact HB.out)) hb); clear HO405; clear HO409; clear BK400; clear HB; have HO405 := n0_; have HO409 := n1_; have BK400 := n2_; have HB := n3_; clear n0_ n1_ n2_ n3_; (try clear hb); (try clear hb2); (try clear hk); (try clear hi); have hcz27_0 : w26.cell? ⟨gb400, 0, none⟩ = some (.int .i64 a0_0) := (blk_cell BK400.out 0).trans rfl; have hcz27_1 : w26.cell? ⟨gb400, 1, none⟩ = some (.slice A0_1 l0_1.length c0_1) := (blk_cell BK400.out 1).trans rfl; have hcz27_2 : w26.cell? ⟨gb400, 2, none⟩ = some (.slice A0_2 l0_2.length c0_2) := (blk_cell BK400.out 2).trans rfl; have hfz27_0 := blk_frozen BK400.out 0; have hfz27_1 := blk_frozen BK400.out 1; have hfz27_2 := blk_frozen BK400.out 2) | ((with_reducible refine gate_callee (f := 30) rfl ?_); refine goesL_ (some 53) rfl rfl Try.func30 (by kernel_rfl) rfl #[.agg #[.int .i64 a0_0, .slice A0_1 l0_1.length c0_1, .slice A0_2 l0_2.length c0_2]] rfl (by (try simp only [List.map_toArray, List.map_cons, List.map_nil]); first | done | rfl | (simp only [List.length_drop, List.length_take]; rfl)) ?_; (with_reducible refine (quadratref06_Contiguous.calls k a0_0 _ _ l0_1 _ _ l0_2 t417 t418 _ ?side1 ?side2 ?side3 ?side4 A11.out).mono ?_); (case side1 => repeat (first | exact (Kd.C_below HR0_1.out HB.out) | (with_reducible refine Kd.C_alloc ?_ _) | (with_reducible refine Kd.C_drewN ?_ _) | (with_reducible refine Kd.C_drew ?_))); (case side2 => exact HC0_1.out); (case side3 => repeat (first | exact (Kd.C_below HR0_2.out HB.out) | (with_reducible refine Kd.C_alloc ?_ _) | (with_reducible refine Kd.C_drewN ?_ _) | (with_reducible refine Kd.C_drew ?_))); (case side4 => exact HC0_2.out); rintro e w28 ⟨rfl, hb⟩; refine ⟨_, rfl, ?_⟩; have n0_ := Aside0.mk (Kd.R_below (by (with_reducible repeat first | apply Kd.R_alloc | apply Kd.R_drewN | apply Kd.R_drew); exact HO405.out) hb); have n1_ := Aside0.mk (Kd.R_below (by (with_reducible repeat first | apply Kd.R_alloc | apply Kd.R_drewN | apply Kd.R_drew); exact HO409.out) hb); have n2_ := Aside0.mk (blk_below (g := gb400) (o := .cells #[.int .i64 a0_0, .slice A0_1 l0_1.length c0_1, .slice A0_2 l0_2.length c0_2] 31 (0, 0)) (by (with_reducible repeat first | apply blk_drewN | apply blk_drew | apply blk_alloc); exact BK400.out) hb); have n3_ := Aside0.mk (below_step (by repeat (first | (with_reducible first | exact HB.out | apply below_alloc | apply pw_below_drewN | apply below_drew1 | refine below_set ?_ GE400.out) | exact HB.out)) hb); clear HO405; clear HO409; clear BK400; clear HB; have HO405 := n0_; have HO409 := n1_; have BK400 := n2_; have HB := n3_; clear n0_ n1_ n2_ n3_; (try clear hb); (try clear hb2); (try clear hk); (try clear hi)))
  (try simp only [Act.put, List.setIfInBounds_toArray, List.set_cons_zero, List.set_cons_succ])
  go_cut [94] (fun v94 wc => ∃ (kq : Nat) (x94_11 : Bool), v94 = .bool x94_11 ∧ Aside0 (quadratlaw06_SectionPlaces.j0 kq l1 x94_11 = some r) ∧ Aside0 (kq ≤ k) ∧ Aside0 (wc.heap[gb400]? = some (.cells #[.int .i64 a0_0, (.slice A0_1 l0_1.length c0_1), (.slice A0_2 l0_2.length c0_2)] 31 (0, 0))) ∧ Aside0 (Below w.heap.size w wc))
  case first =>
   have H := HC12.out
   clear HC12
   replace H := Option.bind_eq_some_iff.mp H
   obtain ⟨t419, A290, H⟩ := H
   replace H : (if t419 = true then (if t406 = t410 then (if t411 = t413 then (if t412 = t414 then (if (t415 != t417) = true then (quadratlaw06_SectionPlaces.j0 k l1 true) else (if t416 = t418 then (if t406 = 0 then (quadratlaw06_SectionPlaces.j0 k l1 (t411 != (t403.length : Int))) else (quadratlaw06_SectionPlaces.j0 k l1 false)) else (quadratlaw06_SectionPlaces.j0 k l1 true))) else (quadratlaw06_SectionPlaces.j0 k l1 true)) else (quadratlaw06_SectionPlaces.j0 k l1 true)) else (quadratlaw06_SectionPlaces.j0 k l1 true)) else (quadratlaw06_SectionPlaces.j0 k l1 true)) = some r := H
   have A29 := Aside0.mk A290
   clear A290
   by_cases c30 : t419 = true
   case neg =>
    replace c30 := Bool.eq_false_iff.mpr c30
    subst c30
    have H1 : (quadratlaw06_SectionPlaces.j0 k l1 true) = some r := by rw [if_neg (show ¬ (false = true) by decide)] at H; exact H
    clear H
    have H := H1
    clear H1
    have H' := Aside0.mk H
    clear H
    obtain ⟨Ao51, co51, eo51⟩ := Kd.R_slice HO405.out
    subst eo51
    obtain ⟨Ao52, co52, eo52⟩ := Kd.R_slice HO409.out
    subst eo52
    go_wp2_with (first | ((with_reducible refine gate_callee (f := 22) rfl ?_); refine goesL_ (some 58) rfl rfl Try.func22 (by kernel_rfl) rfl #[.slice Ao51 t403.length co51, .slice Ao52 t407.length co52] rfl (by (try simp only [List.map_toArray, List.map_cons, List.map_nil]); first | done | rfl | (simp only [List.length_drop, List.length_take]; rfl)) ?_; (with_reducible refine (quadratref06_SameInts.calls k _ _ t403 _ _ t407 false _ ?side1 ?side2 ?side3 ?side4 A29.out).mono ?_); (case side1 => repeat (first | exact (Kd.R_reads' HO405.out).2.2 | (with_reducible refine Kd.C_alloc ?_ _) | (with_reducible refine Kd.C_drewN ?_ _) | (with_reducible refine Kd.C_drew ?_))); (case side2 => exact (Kd.R_reads' HO405.out).2.1); (case side3 => repeat (first | exact (Kd.R_reads' HO409.out).2.2 | (with_reducible refine Kd.C_alloc ?_ _) | (with_reducible refine Kd.C_drewN ?_ _) | (with_reducible refine Kd.C_drew ?_))); (case side4 => exact (Kd.R_reads' HO409.out).2.1); rintro e w' ⟨rfl, ⟨nd, rfl⟩⟩; refine ⟨_, rfl, ?_⟩))
    go_meet
    case rel => exact ⟨_, (true), (by first | rfl | (simp; done) | (simp [*]; done)), H', ⟨by first | omega | exact Nat.le_refl _⟩, ⟨by (with_reducible repeat first | apply blk_drewN | apply blk_drew | apply blk_alloc); exact BK400.out⟩, ⟨by repeat (first | (with_reducible first | exact HB.out | apply below_alloc | apply pw_below_drewN | apply below_drew1 | refine below_set ?_ GE400.out) | exact HB.out)⟩⟩
   subst c30
   have H1 : (if t406 = t410 then (if t411 = t413 then (if t412 = t414 then (if (t415 != t417) = true then (quadratlaw06_SectionPlaces.j0 k l1 true) else (if t416 = t418 then (if t406 = 0 then (quadratlaw06_SectionPlaces.j0 k l1 (t411 != (t403.length : Int))) else (quadratlaw06_SectionPlaces.j0 k l1 false)) else (quadratlaw06_SectionPlaces.j0 k l1 true))) else (quadratlaw06_SectionPlaces.j0 k l1 true)) else (quadratlaw06_SectionPlaces.j0 k l1 true)) else (quadratlaw06_SectionPlaces.j0 k l1 true)) = some r := by rw [if_pos rfl] at H; exact H
   clear H
   have H := H1
   clear H1
   by_cases c31 : t406 = t410
   case neg =>
    rw [if_neg c31] at H
    have c31b0 : (t406 == t410) = false := beq_eq_false_iff_ne.mpr c31
    have c31b1 : (t406 != t410) = true := bne_iff_ne.mpr c31
    (first | rw [c31b0] | (simp only [i64_w, i32_w]; rw [c31b0]) | skip)
    have H' := Aside0.mk H
    clear H
    obtain ⟨Ao49, co49, eo49⟩ := Kd.R_slice HO405.out
    subst eo49
    obtain ⟨Ao50, co50, eo50⟩ := Kd.R_slice HO409.out
    subst eo50
    go_wp2_with (first | ((with_reducible refine gate_callee (f := 22) rfl ?_); refine goesL_ (some 58) rfl rfl Try.func22 (by kernel_rfl) rfl #[.slice Ao49 t403.length co49, .slice Ao50 t407.length co50] rfl (by (try simp only [List.map_toArray, List.map_cons, List.map_nil]); first | done | rfl | (simp only [List.length_drop, List.length_take]; rfl)) ?_; (with_reducible refine (quadratref06_SameInts.calls k _ _ t403 _ _ t407 true _ ?side1 ?side2 ?side3 ?side4 A29.out).mono ?_); (case side1 => repeat (first | exact (Kd.R_reads' HO405.out).2.2 | (with_reducible refine Kd.C_alloc ?_ _) | (with_reducible refine Kd.C_drewN ?_ _) | (with_reducible refine Kd.C_drew ?_))); (case side2 => exact (Kd.R_reads' HO405.out).2.1); (case side3 => repeat (first | exact (Kd.R_reads' HO409.out).2.2 | (with_reducible refine Kd.C_alloc ?_ _) | (with_reducible refine Kd.C_drewN ?_ _) | (with_reducible refine Kd.C_drew ?_))); (case side4 => exact (Kd.R_reads' HO409.out).2.1); rintro e w' ⟨rfl, ⟨nd, rfl⟩⟩; refine ⟨_, rfl, ?_⟩))
    go_meet
    case rel => exact ⟨_, (true), (by first | rfl | (simp; done) | (simp [*]; done)), H', ⟨by first | omega | exact Nat.le_refl _⟩, ⟨by (with_reducible repeat first | apply blk_drewN | apply blk_drew | apply blk_alloc); exact BK400.out⟩, ⟨by repeat (first | (with_reducible first | exact HB.out | apply below_alloc | apply pw_below_drewN | apply below_drew1 | refine below_set ?_ GE400.out) | exact HB.out)⟩⟩
   rw [if_pos c31] at H
   have c31b0 : (t406 == t410) = true := beq_iff_eq.mpr c31
   have c31b1 : (t406 != t410) = false := bne_eq_false_iff_eq.mpr c31
   clear c31
   (first | rw [c31b0] | (simp only [i64_w, i32_w]; rw [c31b0]) | skip)
   by_cases c32 : t411 = t413
   case neg =>
    rw [if_neg c32] at H
    have c32b0 : (t411 == t413) = false := beq_eq_false_iff_ne.mpr c32
    have c32b1 : (t411 != t413) = true := bne_iff_ne.mpr c32
    have H' := Aside0.mk H
    clear H
    obtain ⟨Ao47, co47, eo47⟩ := Kd.R_slice HO405.out
    subst eo47
    obtain ⟨Ao48, co48, eo48⟩ := Kd.R_slice HO409.out
    subst eo48
    go_wp2_with (first | ((with_reducible refine gate_callee (f := 22) rfl ?_); refine goesL_ (some 58) rfl rfl Try.func22 (by kernel_rfl) rfl #[.slice Ao47 t403.length co47, .slice Ao48 t407.length co48] rfl (by (try simp only [List.map_toArray, List.map_cons, List.map_nil]); first | done | rfl | (simp only [List.length_drop, List.length_take]; rfl)) ?_; (with_reducible refine (quadratref06_SameInts.calls k _ _ t403 _ _ t407 true _ ?side1 ?side2 ?side3 ?side4 A29.out).mono ?_); (case side1 => repeat (first | exact (Kd.R_reads' HO405.out).2.2 | (with_reducible refine Kd.C_alloc ?_ _) | (with_reducible refine Kd.C_drewN ?_ _) | (with_reducible refine Kd.C_drew ?_))); (case side2 => exact (Kd.R_reads' HO405.out).2.1); (case side3 => repeat (first | exact (Kd.R_reads' HO409.out).2.2 | (with_reducible refine Kd.C_alloc ?_ _) | (with_reducible refine Kd.C_drewN ?_ _) | (with_reducible refine Kd.C_drew ?_))); (case side4 => exact (Kd.R_reads' HO409.out).2.1); rintro e w' ⟨rfl, ⟨nd, rfl⟩⟩; refine ⟨_, rfl, ?_⟩))
    go_meet
    case rel => exact ⟨_, (true), (by first | rfl | (simp; done) | (simp [*]; done)), H', ⟨by first | omega | exact Nat.le_refl _⟩, ⟨by (with_reducible repeat first | apply blk_drewN | apply blk_drew | apply blk_alloc); exact BK400.out⟩, ⟨by repeat (first | (with_reducible first | exact HB.out | apply below_alloc | apply pw_below_drewN | apply below_drew1 | refine below_set ?_ GE400.out) | exact HB.out)⟩⟩
   rw [if_pos c32] at H
   have c32b0 : (t411 == t413) = true := beq_iff_eq.mpr c32
   have c32b1 : (t411 != t413) = false := bne_eq_false_iff_eq.mpr c32
   clear c32
   by_cases c33 : t412 = t414
   case neg =>
    rw [if_neg c33] at H
    have c33b0 : (t412 == t414) = false := beq_eq_false_iff_ne.mpr c33
    have c33b1 : (t412 != t414) = true := bne_iff_ne.mpr c33
    have H' := Aside0.mk H
    clear H
    obtain ⟨Ao45, co45, eo45⟩ := Kd.R_slice HO405.out
    subst eo45
    obtain ⟨Ao46, co46, eo46⟩ := Kd.R_slice HO409.out
    subst eo46
    go_wp2_with (first | ((with_reducible refine gate_callee (f := 22) rfl ?_); refine goesL_ (some 58) rfl rfl Try.func22 (by kernel_rfl) rfl #[.slice Ao45 t403.length co45, .slice Ao46 t407.length co46] rfl (by (try simp only [List.map_toArray, List.map_cons, List.map_nil]); first | done | rfl | (simp only [List.length_drop, List.length_take]; rfl)) ?_; (with_reducible refine (quadratref06_SameInts.calls k _ _ t403 _ _ t407 true _ ?side1 ?side2 ?side3 ?side4 A29.out).mono ?_); (case side1 => repeat (first | exact (Kd.R_reads' HO405.out).2.2 | (with_reducible refine Kd.C_alloc ?_ _) | (with_reducible refine Kd.C_drewN ?_ _) | (with_reducible refine Kd.C_drew ?_))); (case side2 => exact (Kd.R_reads' HO405.out).2.1); (case side3 => repeat (first | exact (Kd.R_reads' HO409.out).2.2 | (with_reducible refine Kd.C_alloc ?_ _) | (with_reducible refine Kd.C_drewN ?_ _) | (with_reducible refine Kd.C_drew ?_))); (case side4 => exact (Kd.R_reads' HO409.out).2.1); rintro e w' ⟨rfl, ⟨nd, rfl⟩⟩; refine ⟨_, rfl, ?_⟩))
    go_meet
    case rel => exact ⟨_, (true), (by first | rfl | (simp; done) | (simp [*]; done)), H', ⟨by first | omega | exact Nat.le_refl _⟩, ⟨by (with_reducible repeat first | apply blk_drewN | apply blk_drew | apply blk_alloc); exact BK400.out⟩, ⟨by repeat (first | (with_reducible first | exact HB.out | apply below_alloc | apply pw_below_drewN | apply below_drew1 | refine below_set ?_ GE400.out) | exact HB.out)⟩⟩
   rw [if_pos c33] at H
   have c33b0 : (t412 == t414) = true := beq_iff_eq.mpr c33
   have c33b1 : (t412 != t414) = false := bne_eq_false_iff_eq.mpr c33
   clear c33
   by_cases c34 : (t415 != t417) = true
   case pos =>
    rw [if_pos c34] at H
    have c34b0 : (t415 != t417) = true := c34
    (try (have c34b1 : decide (t415 = t417) = false := by simpa using c34))
    (try (have c34b2 : (t415 == t417) = false := by simpa using c34))
    (try (have c34b3 : ¬ (t415 = t417) := by simpa using c34))
    clear c34
    have H' := Aside0.mk H
    clear H
    obtain ⟨Ao35, co35, eo35⟩ := Kd.R_slice HO405.out
    subst eo35
    obtain ⟨Ao36, co36, eo36⟩ := Kd.R_slice HO409.out
    subst eo36
    go_wp2_with (first | ((with_reducible refine gate_callee (f := 22) rfl ?_); refine goesL_ (some 58) rfl rfl Try.func22 (by kernel_rfl) rfl #[.slice Ao35 t403.length co35, .slice Ao36 t407.length co36] rfl (by (try simp only [List.map_toArray, List.map_cons, List.map_nil]); first | done | rfl | (simp only [List.length_drop, List.length_take]; rfl)) ?_; (with_reducible refine (quadratref06_SameInts.calls k _ _ t403 _ _ t407 true _ ?side1 ?side2 ?side3 ?side4 A29.out).mono ?_); (case side1 => repeat (first | exact (Kd.R_reads' HO405.out).2.2 | (with_reducible refine Kd.C_alloc ?_ _) | (with_reducible refine Kd.C_drewN ?_ _) | (with_reducible refine Kd.C_drew ?_))); (case side2 => exact (Kd.R_reads' HO405.out).2.1); (case side3 => repeat (first | exact (Kd.R_reads' HO409.out).2.2 | (with_reducible refine Kd.C_alloc ?_ _) | (with_reducible refine Kd.C_drewN ?_ _) | (with_reducible refine Kd.C_drew ?_))); (case side4 => exact (Kd.R_reads' HO409.out).2.1); rintro e w' ⟨rfl, ⟨nd, rfl⟩⟩; refine ⟨_, rfl, ?_⟩))
    go_meet
    case rel => exact ⟨_, (true), (by first | rfl | (simp; done) | (simp [*]; done)), H', ⟨by first | omega | exact Nat.le_refl _⟩, ⟨by (with_reducible repeat first | apply blk_drewN | apply blk_drew | apply blk_alloc); exact BK400.out⟩, ⟨by repeat (first | (with_reducible first | exact HB.out | apply below_alloc | apply pw_below_drewN | apply below_drew1 | refine below_set ?_ GE400.out) | exact HB.out)⟩⟩
   rw [if_neg c34] at H
   have c34b0 : (t415 != t417) = false := by simpa using c34
   (try (have c34b1 : decide (t415 = t417) = true := by simpa using c34))
   (try (have c34b2 : (t415 == t417) = true := by simpa using c34))
   clear c34
   by_cases c37 : t416 = t418
   case neg =>
    rw [if_neg c37] at H
    have c37b0 : (t416 == t418) = false := beq_eq_false_iff_ne.mpr c37
    have c37b1 : (t416 != t418) = true := bne_iff_ne.mpr c37
    have H' := Aside0.mk H
    clear H
    obtain ⟨Ao43, co43, eo43⟩ := Kd.R_slice HO405.out
    subst eo43
    obtain ⟨Ao44, co44, eo44⟩ := Kd.R_slice HO409.out
    subst eo44
    go_wp2_with (first | ((with_reducible refine gate_callee (f := 22) rfl ?_); refine goesL_ (some 58) rfl rfl Try.func22 (by kernel_rfl) rfl #[.slice Ao43 t403.length co43, .slice Ao44 t407.length co44] rfl (by (try simp only [List.map_toArray, List.map_cons, List.map_nil]); first | done | rfl | (simp only [List.length_drop, List.length_take]; rfl)) ?_; (with_reducible refine (quadratref06_SameInts.calls k _ _ t403 _ _ t407 true _ ?side1 ?side2 ?side3 ?side4 A29.out).mono ?_); (case side1 => repeat (first | exact (Kd.R_reads' HO405.out).2.2 | (with_reducible refine Kd.C_alloc ?_ _) | (with_reducible refine Kd.C_drewN ?_ _) | (with_reducible refine Kd.C_drew ?_))); (case side2 => exact (Kd.R_reads' HO405.out).2.1); (case side3 => repeat (first | exact (Kd.R_reads' HO409.out).2.2 | (with_reducible refine Kd.C_alloc ?_ _) | (with_reducible refine Kd.C_drewN ?_ _) | (with_reducible refine Kd.C_drew ?_))); (case side4 => exact (Kd.R_reads' HO409.out).2.1); rintro e w' ⟨rfl, ⟨nd, rfl⟩⟩; refine ⟨_, rfl, ?_⟩))
    go_meet
    case rel => exact ⟨_, (true), (by first | rfl | (simp; done) | (simp [*]; done)), H', ⟨by first | omega | exact Nat.le_refl _⟩, ⟨by (with_reducible repeat first | apply blk_drewN | apply blk_drew | apply blk_alloc); exact BK400.out⟩, ⟨by repeat (first | (with_reducible first | exact HB.out | apply below_alloc | apply pw_below_drewN | apply below_drew1 | refine below_set ?_ GE400.out) | exact HB.out)⟩⟩
   rw [if_pos c37] at H
   have c37b0 : (t416 == t418) = true := beq_iff_eq.mpr c37
   have c37b1 : (t416 != t418) = false := bne_eq_false_iff_eq.mpr c37
   clear c37
   by_cases c38 : t406 = 0
   case neg =>
    rw [if_neg c38] at H
    have c38b0 : (t406 == 0) = false := beq_eq_false_iff_ne.mpr c38
    have c38b1 : (t406 != 0) = true := bne_iff_ne.mpr c38
    have H' := Aside0.mk H
    clear H
    obtain ⟨Ao41, co41, eo41⟩ := Kd.R_slice HO405.out
    subst eo41
    obtain ⟨Ao42, co42, eo42⟩ := Kd.R_slice HO409.out
    subst eo42
    go_wp2_with (first | ((with_reducible refine gate_callee (f := 22) rfl ?_); refine goesL_ (some 58) rfl rfl Try.func22 (by kernel_rfl) rfl #[.slice Ao41 t403.length co41, .slice Ao42 t407.length co42] rfl (by (try simp only [List.map_toArray, List.map_cons, List.map_nil]); first | done | rfl | (simp only [List.length_drop, List.length_take]; rfl)) ?_; (with_reducible refine (quadratref06_SameInts.calls k _ _ t403 _ _ t407 true _ ?side1 ?side2 ?side3 ?side4 A29.out).mono ?_); (case side1 => repeat (first | exact (Kd.R_reads' HO405.out).2.2 | (with_reducible refine Kd.C_alloc ?_ _) | (with_reducible refine Kd.C_drewN ?_ _) | (with_reducible refine Kd.C_drew ?_))); (case side2 => exact (Kd.R_reads' HO405.out).2.1); (case side3 => repeat (first | exact (Kd.R_reads' HO409.out).2.2 | (with_reducible refine Kd.C_alloc ?_ _) | (with_reducible refine Kd.C_drewN ?_ _) | (with_reducible refine Kd.C_drew ?_))); (case side4 => exact (Kd.R_reads' HO409.out).2.1); rintro e w' ⟨rfl, ⟨nd, rfl⟩⟩; refine ⟨_, rfl, ?_⟩))
    go_meet
    case rel => exact ⟨_, (false), (by first | rfl | (simp; done) | (simp [*]; done)), H', ⟨by first | omega | exact Nat.le_refl _⟩, ⟨by (with_reducible repeat first | apply blk_drewN | apply blk_drew | apply blk_alloc); exact BK400.out⟩, ⟨by repeat (first | (with_reducible first | exact HB.out | apply below_alloc | apply pw_below_drewN | apply below_drew1 | refine below_set ?_ GE400.out) | exact HB.out)⟩⟩
   rw [if_pos c38] at H
   have c38b0 : (t406 == 0) = true := beq_iff_eq.mpr c38
   have c38b1 : (t406 != 0) = false := bne_eq_false_iff_eq.mpr c38
   clear c38
   have H' := Aside0.mk H
   clear H
   obtain ⟨Ao39, co39, eo39⟩ := Kd.R_slice HO405.out
   subst eo39
   obtain ⟨Ao40, co40, eo40⟩ := Kd.R_slice HO409.out
   subst eo40
   go_wp2_with (first | ((with_reducible refine gate_callee (f := 22) rfl ?_); refine goesL_ (some 58) rfl rfl Try.func22 (by kernel_rfl) rfl #[.slice Ao39 t403.length co39, .slice Ao40 t407.length co40] rfl (by (try simp only [List.map_toArray, List.map_cons, List.map_nil]); first | done | rfl | (simp only [List.length_drop, List.length_take]; rfl)) ?_; (with_reducible refine (quadratref06_SameInts.calls k _ _ t403 _ _ t407 true _ ?side1 ?side2 ?side3 ?side4 A29.out).mono ?_); (case side1 => repeat (first | exact (Kd.R_reads' HO405.out).2.2 | (with_reducible refine Kd.C_alloc ?_ _) | (with_reducible refine Kd.C_drewN ?_ _) | (with_reducible refine Kd.C_drew ?_))); (case side2 => exact (Kd.R_reads' HO405.out).2.1); (case side3 => repeat (first | exact (Kd.R_reads' HO409.out).2.2 | (with_reducible refine Kd.C_alloc ?_ _) | (with_reducible refine Kd.C_drewN ?_ _) | (with_reducible refine Kd.C_drew ?_))); (case side4 => exact (Kd.R_reads' HO409.out).2.1); rintro e w' ⟨rfl, ⟨nd, rfl⟩⟩; refine ⟨_, rfl, ?_⟩))
   go_meet
   case rel => exact ⟨_, ((t411 != (t403.length : Int))), (by first | rfl | (simp; done) | (simp [*]; done)), H', ⟨by first | omega | exact Nat.le_refl _⟩, ⟨by (with_reducible repeat first | apply blk_drewN | apply blk_drew | apply blk_alloc); exact BK400.out⟩, ⟨by repeat (first | (with_reducible first | exact HB.out | apply below_alloc | apply pw_below_drewN | apply below_drew1 | refine below_set ?_ GE400.out) | exact HB.out)⟩⟩
  clear HC12
  try clear c1
  try clear c2
  try clear p2
  try clear c3
  try clear c5
  try clear c5b0
  try clear c5b1
  try clear c5b2
  try clear c7
  try clear c22
  try clear c23
  try clear c24
  try clear c25
  try clear c26
  try clear c27
  try clear c28
  try clear c29
  try clear c30
  try clear c31
  try clear c31b0
  try clear c31b1
  try clear c32
  try clear c32b0
  try clear c32b1
  try clear c33
  try clear c33b0
  try clear c33b1
  try clear c34
  try clear c34b0
  try clear c34b1
  try clear c34b2
  try clear c37
  try clear c37b0
  try clear c37b1
  try clear c38
  try clear c38b0
  try clear c38b1
  try clear hcz17_0
  try clear hcz17_1
  try clear hcz17_2
  try clear hcz19_0
  try clear hcz19_1
  try clear hcz19_2
  try clear hcz21_0
  try clear hcz21_1
  try clear hcz21_2
  try clear hcz23_0
  try clear hcz23_1
  try clear hcz23_2
  try clear hcz25_0
  try clear hcz25_1
  try clear hcz25_2
  try clear hcz27_0
  try clear hcz27_1
  try clear hcz27_2
  try clear hfz17_0
  try clear hfz17_1
  try clear hfz17_2
  try clear hfz19_0
  try clear hfz19_1
  try clear hfz19_2
  try clear hfz21_0
  try clear hfz21_1
  try clear hfz21_2
  try clear hfz23_0
  try clear hfz23_1
  try clear hfz23_2
  try clear hfz25_0
  try clear hfz25_1
  try clear hfz25_2
  try clear hfz27_0
  try clear hfz27_1
  try clear hfz27_2
  obtain ⟨kq, x94_11, rfl, HA, HJ11, BK400, HB⟩ := hcut
  cases kq with
  | zero => exact absurd HA.out (by simp [quadratlaw06_SectionPlaces.j0])
  | succ kj11 =>
   have H := HA.out
   clear HA
   simp only [quadratlaw06_SectionPlaces.j0] at H
   by_cases c53 : x94_11 = true
   case pos =>
    subst c53
    have H1 : (some false) = some r := by rw [if_pos rfl] at H; exact H
    clear H
    have H := H1
    clear H1
    exact absurd (Eq.trans H (congrArg some HR9.out)) (by simp)
   replace c53 := Bool.eq_false_iff.mpr c53
   subst c53
   have H1 : ((section_Whole.f kj11 l1).bind fun bt420 => ((quadratref06_Whole.f kj11 l1).bind fun bt429 => ((quadratref06_Same.f kj11 bt420.1 bt420.2.1 bt420.2.2.1 bt429.1 bt429.2.1 bt429.2.2.1).bind fun t438 => (if t438 = true then (if bt420.2.2.2 = bt429.2.2.2 then ((quadratlaw06_Awake.f kj11).bind fun t439 => (some t439)) else (some false)) else (some false))))) = some r := by rw [if_neg (show ¬ (false = true) by decide)] at H; exact H
   clear H
   have H := H1
   clear H1
   replace H := Option.bind_eq_some_iff.mp H
   obtain ⟨⟨t420, t421, t424, t427⟩, A540, H⟩ := H
   replace H : ((quadratref06_Whole.f kj11 l1).bind fun bt429 => ((quadratref06_Same.f kj11 t420 t421 t424 bt429.1 bt429.2.1 bt429.2.2.1).bind fun t438 => (if t438 = true then (if t427 = bt429.2.2.2 then ((quadratlaw06_Awake.f kj11).bind fun t439 => (some t439)) else (some false)) else (some false)))) = some r := H
   have A54 := Aside0.mk A540
   clear A540
   replace H := Option.bind_eq_some_iff.mp H
   obtain ⟨⟨t429, t430, t433, t436⟩, A550, H⟩ := H
   replace H : ((quadratref06_Same.f kj11 t420 t421 t424 t429 t430 t433).bind fun t438 => (if t438 = true then (if t427 = t436 then ((quadratlaw06_Awake.f kj11).bind fun t439 => (some t439)) else (some false)) else (some false))) = some r := H
   have A55 := Aside0.mk A550
   clear A550
   replace H := Option.bind_eq_some_iff.mp H
   obtain ⟨t438, A560, H⟩ := H
   replace H : (if t438 = true then (if t427 = t436 then ((quadratlaw06_Awake.f kj11).bind fun t439 => (some t439)) else (some false)) else (some false)) = some r := H
   have A56 := Aside0.mk A560
   clear A560
   by_cases c57 : t438 = true
   case neg =>
    replace c57 := Bool.eq_false_iff.mpr c57
    subst c57
    have H1 : (some false) = some r := by rw [if_neg (show ¬ (false = true) by decide)] at H; exact H
    clear H
    have H := H1
    clear H1
    exact absurd (Eq.trans H (congrArg some HR9.out)) (by simp)
   subst c57
   have H1 : (if t427 = t436 then ((quadratlaw06_Awake.f kj11).bind fun t439 => (some t439)) else (some false)) = some r := by rw [if_pos rfl] at H; exact H
   clear H
   have H := H1
   clear H1
   by_cases c58 : t427 = t436
   case neg =>
    rw [if_neg c58] at H
    have c58b0 : (t427 == t436) = false := beq_eq_false_iff_ne.mpr c58
    have c58b1 : (t427 != t436) = true := bne_iff_ne.mpr c58
    exact absurd (Eq.trans H (congrArg some HR9.out)) (by simp)
   rw [if_pos c58] at H
   have c58b0 : (t427 == t436) = true := beq_iff_eq.mpr c58
   have c58b1 : (t427 != t436) = false := bne_eq_false_iff_eq.mpr c58
   clear c58
   replace H := Option.bind_eq_some_iff.mp H
   obtain ⟨t439, A590, H⟩ := H
   replace H : (some t439) = some r := H
   have A59 := Aside0.mk A590
   clear A590
   obtain rfl := Option.some.inj H
   go_wp2_with (first | ((with_reducible refine gate_callee (f := 31) rfl ?_); refine goesL_ (some 97) rfl rfl Try.func31 (by kernel_rfl) rfl #[.slice A1 l1.length c1] rfl (by (try simp only [List.map_toArray, List.map_cons, List.map_nil]); first | done | rfl | (simp only [List.length_drop, List.length_take]; rfl)) ?_; (with_reducible refine (section_Whole.calls kj11 _ _ l1 t420 t421 t424 t427 _ ?side1 ?side2 A54.out).mono ?_); (case side1 => repeat (first | exact (Kd.C_below HR1.out HB.out) | (with_reducible refine Kd.C_alloc ?_ _) | (with_reducible refine Kd.C_drewN ?_ _) | (with_reducible refine Kd.C_drew ?_))); (case side2 => exact HC1.out); rintro e w60 ⟨v422, v425, rfl, ho0, ho1, hb⟩; refine ⟨_, rfl, ?_⟩; have n0_ := Aside0.mk (Kd.R_lower ho0 (below_size (by repeat (first | (with_reducible first | exact HB.out | apply below_alloc | apply pw_below_drewN | apply below_drew1 | refine below_set ?_ GE400.out) | exact HB.out)))); have n1_ := Aside0.mk (Kd.R_lower ho1 (below_size (by repeat (first | (with_reducible first | exact HB.out | apply below_alloc | apply pw_below_drewN | apply below_drew1 | refine below_set ?_ GE400.out) | exact HB.out)))); have n2_ := Aside0.mk (blk_below (g := gb400) (o := .cells #[.int .i64 a0_0, .slice A0_1 l0_1.length c0_1, .slice A0_2 l0_2.length c0_2] 31 (0, 0)) (by (with_reducible repeat first | apply blk_drewN | apply blk_drew | apply blk_alloc); exact BK400.out) hb); have n3_ := Aside0.mk (below_step (by repeat (first | (with_reducible first | exact HB.out | apply below_alloc | apply pw_below_drewN | apply below_drew1 | refine below_set ?_ GE400.out) | exact HB.out)) hb); clear BK400; clear HB; have HO423 := n0_; have HO426 := n1_; have BK400 := n2_; have HB := n3_; clear n0_ n1_ n2_ n3_; (try clear hb); (try clear hb2); (try clear hk); (try clear hi); (try clear ho0); (try clear ho1)) | ((with_reducible refine gate_dst (N := 17) rfl ?_); (try (refine gate_guard (by rfl) ?_; dsimp only)); refine box_event ?hg (N := 17) ?hd (cs := #[.int .i64 0, .slice none 0 0, .slice none 0 0]) (t := 31) ?hr ?_; (case hd => rfl); (case hg => rfl); (case hr => first | (go_simp; done) | (go_simp; rfl)); intro gb428 hg w61 hbox hb; have n0_ := Aside0.mk (Kd.R_below (by (with_reducible repeat first | apply Kd.R_alloc | apply Kd.R_drewN | apply Kd.R_drew); exact HO423.out) hb); have n1_ := Aside0.mk (Kd.R_below (by (with_reducible repeat first | apply Kd.R_alloc | apply Kd.R_drewN | apply Kd.R_drew); exact HO426.out) hb); have n2_ := Aside0.mk (blk_below (g := gb400) (o := .cells #[.int .i64 a0_0, .slice A0_1 l0_1.length c0_1, .slice A0_2 l0_2.length c0_2] 31 (0, 0)) (by (with_reducible repeat first | apply blk_drewN | apply blk_drew | apply blk_alloc); exact BK400.out) hb); have n3_ := Aside0.mk (below_step (by repeat (first | (with_reducible first | exact HB.out | apply below_alloc | apply pw_below_drewN | apply below_drew1 | refine below_set ?_ GE400.out) | exact HB.out)) hb); have n4_ := Aside0.mk (hbox); have n5_ := Aside0.mk ((by rw [hg]; exact (below_size (by repeat (first | (with_reducible first | exact HB.out | apply below_alloc | apply pw_below_drewN | apply below_drew1 | refine below_set ?_ GE400.out) | exact HB.out))) : w.heap.size ≤ gb428)); have n6_ := Aside0.mk ((by rw [hg]; exact (below_size (by repeat (first | (with_reducible first | exact HB.out | apply below_alloc | apply pw_below_drewN | apply below_drew1 | refine below_set ?_ GE400.out) | exact HB.out))) : w.heap.size ≤ gb428)); have n7_ := Aside0.mk ((by rw [hg]; exact Nat.ne_of_lt (blk_lt (g := gb400) (o := .cells #[.int .i64 a0_0, .slice A0_1 l0_1.length c0_1, .slice A0_2 l0_2.length c0_2] 31 (0, 0)) (by (with_reducible repeat first | apply blk_drewN | apply blk_drew | apply blk_alloc); exact BK400.out)) : gb400 ≠ gb428)); have n8_ := Aside0.mk ((by rw [hg]; exact Nat.ne_of_gt (blk_lt (g := gb400) (o := .cells #[.int .i64 a0_0, .slice A0_1 l0_1.length c0_1, .slice A0_2 l0_2.length c0_2] 31 (0, 0)) (by (with_reducible repeat first | apply blk_drewN | apply blk_drew | apply blk_alloc); exact BK400.out)) : gb428 ≠ gb400)); clear HO423; clear HO426; clear BK400; clear HB; have HO423 := n0_; have HO426 := n1_; have BK400 := n2_; have HB := n3_; have BK428 := n4_; have GW428 := n5_; have GE428 := n6_; have NB400_428 := n7_; have NB428_400 := n8_; clear n0_ n1_ n2_ n3_ n4_ n5_ n6_ n7_ n8_; clear hb hbox hg; have hnb62 := NB428_400.out; have hnc62 := NB400_428.out; have hcz63_0 : w61.cell? ⟨gb428, 0, none⟩ = some (.int .i64 0) := (blk_cell BK428.out 0).trans rfl; have hcz63_1 : w61.cell? ⟨gb428, 1, none⟩ = some (.slice none 0 0) := (blk_cell BK428.out 1).trans rfl; have hcz63_2 : w61.cell? ⟨gb428, 2, none⟩ = some (.slice none 0 0) := (blk_cell BK428.out 2).trans rfl; have hfz63_0 := blk_frozen BK428.out 0; have hfz63_1 := blk_frozen BK428.out 1; have hfz63_2 := blk_frozen BK428.out 2; obtain ⟨Ao64, co64, eo64⟩ := Kd.R_slice HO423.out; subst eo64; obtain ⟨Ao65, co65, eo65⟩ := Kd.R_slice HO426.out; subst eo65) | ((with_reducible refine gate_callee (f := 32) rfl ?_); refine goesL_ (some 102) rfl rfl Try.func32 (by kernel_rfl) rfl #[.slice A1 l1.length c1] rfl (by (try simp only [List.map_toArray, List.map_cons, List.map_nil]); first | done | rfl | (simp only [List.length_drop, List.length_take]; rfl)) ?_; (with_reducible refine (quadratref06_Whole.calls kj11 _ _ l1 t429 t430 t433 t436 _ ?side1 ?side2 A55.out).mono ?_); (case side1 => exact Kd.C_below HR1.out (by repeat (first | (with_reducible first | exact HB.out | apply below_alloc | apply pw_below_drewN | apply below_drew1 | refine below_set ?_ GE400.out | refine below_set ?_ GE428.out) | exact HB.out))); (case side2 => exact HC1.out); rintro e w66 ⟨v431, v434, rfl, ho0, ho1, hb⟩; refine ⟨_, rfl, ?_⟩; have n0_ := Aside0.mk (Kd.R_mono (Kd.R_told (Kd.R_told (Kd.R_old (by (with_reducible repeat first | apply Kd.R_alloc | apply Kd.R_drewN | apply Kd.R_drew); exact (Kd.R_mono (Kd.R_far (p := ⟨gb428, 2, none⟩) (Kd.R_far (p := ⟨gb428, 1, none⟩) (Kd.R_far (p := ⟨gb428, 0, none⟩) (Kd.R_types HO423.out BK428.out (by decide)) (fun _ hk => hk.2) (.int .i64 t420)) (fun _ hk => hk.2) (.slice Ao64 t421.length co64)) (fun _ hk => hk.2) (.slice Ao65 t424.length co65)) (fun _ h_ => h_.1))) hb) (Kd.R_base ho0)) (Kd.R_base ho1)) (fun _ h_ => h_.1)); have n1_ := Aside0.mk (Kd.R_mono (Kd.R_told (Kd.R_told (Kd.R_old (by (with_reducible repeat first | apply Kd.R_alloc | apply Kd.R_drewN | apply Kd.R_drew); exact (Kd.R_mono (Kd.R_far (p := ⟨gb428, 2, none⟩) (Kd.R_far (p := ⟨gb428, 1, none⟩) (Kd.R_far (p := ⟨gb428, 0, none⟩) (Kd.R_types HO426.out BK428.out (by decide)) (fun _ hk => hk.2) (.int .i64 t420)) (fun _ hk => hk.2) (.slice Ao64 t421.length co64)) (fun _ hk => hk.2) (.slice Ao65 t424.length co65)) (fun _ h_ => h_.1))) hb) (Kd.R_base ho0)) (Kd.R_base ho1)) (fun _ h_ => h_.1)); have n2_ := Aside0.mk (Kd.R_lower (Kd.R_new' (Kd.R_new' ho0 (Kd.R_lt (by (with_reducible repeat first | apply Kd.R_alloc | apply Kd.R_drewN | apply Kd.R_drew); exact (Kd.R_mono (Kd.R_far (p := ⟨gb428, 2, none⟩) (Kd.R_far (p := ⟨gb428, 1, none⟩) (Kd.R_far (p := ⟨gb428, 0, none⟩) (Kd.R_types HO423.out BK428.out (by decide)) (fun _ hk => hk.2) (.int .i64 t420)) (fun _ hk => hk.2) (.slice Ao64 t421.length co64)) (fun _ hk => hk.2) (.slice Ao65 t424.length co65)) (fun _ h_ => h_.1))))) (Kd.R_lt (by (with_reducible repeat first | apply Kd.R_alloc | apply Kd.R_drewN | apply Kd.R_drew); exact (Kd.R_mono (Kd.R_far (p := ⟨gb428, 2, none⟩) (Kd.R_far (p := ⟨gb428, 1, none⟩) (Kd.R_far (p := ⟨gb428, 0, none⟩) (Kd.R_types HO426.out BK428.out (by decide)) (fun _ hk => hk.2) (.int .i64 t420)) (fun _ hk => hk.2) (.slice Ao64 t421.length co64)) (fun _ hk => hk.2) (.slice Ao65 t424.length co65)) (fun _ h_ => h_.1))))) (below_size (by repeat (first | (with_reducible first | exact HB.out | apply below_alloc | apply pw_below_drewN | apply below_drew1 | refine below_set ?_ GE400.out | refine below_set ?_ GE428.out) | exact HB.out)))); have n3_ := Aside0.mk (Kd.R_lower (Kd.R_new' (Kd.R_new' ho1 (Kd.R_lt (by (with_reducible repeat first | apply Kd.R_alloc | apply Kd.R_drewN | apply Kd.R_drew); exact (Kd.R_mono (Kd.R_far (p := ⟨gb428, 2, none⟩) (Kd.R_far (p := ⟨gb428, 1, none⟩) (Kd.R_far (p := ⟨gb428, 0, none⟩) (Kd.R_types HO423.out BK428.out (by decide)) (fun _ hk => hk.2) (.int .i64 t420)) (fun _ hk => hk.2) (.slice Ao64 t421.length co64)) (fun _ hk => hk.2) (.slice Ao65 t424.length co65)) (fun _ h_ => h_.1))))) (Kd.R_lt (by (with_reducible repeat first | apply Kd.R_alloc | apply Kd.R_drewN | apply Kd.R_drew); exact (Kd.R_mono (Kd.R_far (p := ⟨gb428, 2, none⟩) (Kd.R_far (p := ⟨gb428, 1, none⟩) (Kd.R_far (p := ⟨gb428, 0, none⟩) (Kd.R_types HO426.out BK428.out (by decide)) (fun _ hk => hk.2) (.int .i64 t420)) (fun _ hk => hk.2) (.slice Ao64 t421.length co64)) (fun _ hk => hk.2) (.slice Ao65 t424.length co65)) (fun _ h_ => h_.1))))) (below_size (by repeat (first | (with_reducible first | exact HB.out | apply below_alloc | apply pw_below_drewN | apply below_drew1 | refine below_set ?_ GE400.out | refine below_set ?_ GE428.out) | exact HB.out)))); have n4_ := Aside0.mk (blk_below (g := gb400) (o := .cells #[.int .i64 a0_0, .slice A0_1 l0_1.length c0_1, .slice A0_2 l0_2.length c0_2] 31 (0, 0)) (by (with_reducible repeat first | apply blk_drewN | apply blk_drew | apply blk_alloc); refine blk_far ?_ NB400_428.out _; (with_reducible repeat first | apply blk_drewN | apply blk_drew | apply blk_alloc); refine blk_far ?_ NB400_428.out _; (with_reducible repeat first | apply blk_drewN | apply blk_drew | apply blk_alloc); refine blk_far ?_ NB400_428.out _; (with_reducible repeat first | apply blk_drewN | apply blk_drew | apply blk_alloc); exact BK400.out) hb); have n5_ := Aside0.mk (blk_below (g := gb428) (o := .cells #[.int .i64 t420, .slice Ao64 t421.length co64, .slice Ao65 t424.length co65] 31 (0, 0)) (by (with_reducible repeat first | apply blk_drewN | apply blk_drew | apply blk_alloc); refine blk_put (cs := #[.int .i64 t420, .slice Ao64 t421.length co64, .slice none 0 0]) ?_ 2 _ rfl; (with_reducible repeat first | apply blk_drewN | apply blk_drew | apply blk_alloc); refine blk_put (cs := #[.int .i64 t420, .slice none 0 0, .slice none 0 0]) ?_ 1 _ rfl; (with_reducible repeat first | apply blk_drewN | apply blk_drew | apply blk_alloc); refine blk_put (cs := #[.int .i64 0, .slice none 0 0, .slice none 0 0]) ?_ 0 _ rfl; (with_reducible repeat first | apply blk_drewN | apply blk_drew | apply blk_alloc); exact BK428.out) hb); have n6_ := Aside0.mk (below_step (by repeat (first | (with_reducible first | exact HB.out | apply below_alloc | apply pw_below_drewN | apply below_drew1 | refine below_set ?_ GE400.out | refine below_set ?_ GE428.out) | exact HB.out)) hb); clear HO423; clear HO426; clear BK400; clear BK428; clear HB; have HO423 := n0_; have HO426 := n1_; have HO432 := n2_; have HO435 := n3_; have BK400 := n4_; have BK428 := n5_; have HB := n6_; clear n0_ n1_ n2_ n3_ n4_ n5_ n6_; (try clear hb); (try clear hb2); (try clear hk); (try clear hi); (try clear ho0); (try clear ho1)) | ((with_reducible refine gate_dst (N := 19) rfl ?_); (try (refine gate_guard (by rfl) ?_; dsimp only)); refine box_event ?hg (N := 19) ?hd (cs := #[.int .i64 0, .slice none 0 0, .slice none 0 0]) (t := 31) ?hr ?_; (case hd => rfl); (case hg => rfl); (case hr => first | (go_simp; done) | (go_simp; rfl)); intro gb437 hg w67 hbox hb; have n0_ := Aside0.mk (Kd.R_below (by (with_reducible repeat first | apply Kd.R_alloc | apply Kd.R_drewN | apply Kd.R_drew); exact HO423.out) hb); have n1_ := Aside0.mk (Kd.R_below (by (with_reducible repeat first | apply Kd.R_alloc | apply Kd.R_drewN | apply Kd.R_drew); exact HO426.out) hb); have n2_ := Aside0.mk (Kd.R_below (by (with_reducible repeat first | apply Kd.R_alloc | apply Kd.R_drewN | apply Kd.R_drew); exact HO432.out) hb); have n3_ := Aside0.mk (Kd.R_below (by (with_reducible repeat first | apply Kd.R_alloc | apply Kd.R_drewN | apply Kd.R_drew); exact HO435.out) hb); have n4_ := Aside0.mk (blk_below (g := gb400) (o := .cells #[.int .i64 a0_0, .slice A0_1 l0_1.length c0_1, .slice A0_2 l0_2.length c0_2] 31 (0, 0)) (by (with_reducible repeat first | apply blk_drewN | apply blk_drew | apply blk_alloc); exact BK400.out) hb); have n5_ := Aside0.mk (blk_below (g := gb428) (o := .cells #[.int .i64 t420, .slice Ao64 t421.length co64, .slice Ao65 t424.length co65] 31 (0, 0)) (by (with_reducible repeat first | apply blk_drewN | apply blk_drew | apply blk_alloc); exact BK428.out) hb); have n6_ := Aside0.mk (below_step (by repeat (first | (with_reducible first | exact HB.out | apply below_alloc | apply pw_below_drewN | apply below_drew1 | refine below_set ?_ GE400.out | refine below_set ?_ GE428.out) | exact HB.out)) hb); have n7_ := Aside0.mk (hbox); have n8_ := Aside0.mk ((by rw [hg]; exact (below_size (by repeat (first | (with_reducible first | exact HB.out | apply below_alloc | apply pw_below_drewN | apply below_drew1 | refine below_set ?_ GE400.out | refine below_set ?_ GE428.out) | exact HB.out))) : w.heap.size ≤ gb437)); have n9_ := Aside0.mk ((by rw [hg]; exact (below_size (by repeat (first | (with_reducible first | exact HB.out | apply below_alloc | apply pw_below_drewN | apply below_drew1 | refine below_set ?_ GE400.out | refine below_set ?_ GE428.out) | exact HB.out))) : w.heap.size ≤ gb437)); have n10_ := Aside0.mk ((by rw [hg]; exact Nat.ne_of_lt (blk_lt (g := gb400) (o := .cells #[.int .i64 a0_0, .slice A0_1 l0_1.length c0_1, .slice A0_2 l0_2.length c0_2] 31 (0, 0)) (by (with_reducible repeat first | apply blk_drewN | apply blk_drew | apply blk_alloc); exact BK400.out)) : gb400 ≠ gb437)); have n11_ := Aside0.mk ((by rw [hg]; exact Nat.ne_of_gt (blk_lt (g := gb400) (o := .cells #[.int .i64 a0_0, .slice A0_1 l0_1.length c0_1, .slice A0_2 l0_2.length c0_2] 31 (0, 0)) (by (with_reducible repeat first | apply blk_drewN | apply blk_drew | apply blk_alloc); exact BK400.out)) : gb437 ≠ gb400)); have n12_ := Aside0.mk ((by rw [hg]; exact Nat.ne_of_lt (blk_lt (g := gb428) (o := .cells #[.int .i64 t420, .slice Ao64 t421.length co64, .slice Ao65 t424.length co65] 31 (0, 0)) (by (with_reducible repeat first | apply blk_drewN | apply blk_drew | apply blk_alloc); exact BK428.out)) : gb428 ≠ gb437)); have n13_ := Aside0.mk ((by rw [hg]; exact Nat.ne_of_gt (blk_lt (g := gb428) (o := .cells #[.int .i64 t420, .slice Ao64 t421.length co64, .slice Ao65 t424.length co65] 31 (0, 0)) (by (with_reducible repeat first | apply blk_drewN | apply blk_drew | apply blk_alloc); exact BK428.out)) : gb437 ≠ gb428)); clear HO423; clear HO426; clear HO432; clear HO435; clear BK400; clear BK428; clear HB; have HO423 := n0_; have HO426 := n1_; have HO432 := n2_; have HO435 := n3_; have BK400 := n4_; have BK428 := n5_; have HB := n6_; have BK437 := n7_; have GW437 := n8_; have GE437 := n9_; have NB400_437 := n10_; have NB437_400 := n11_; have NB428_437 := n12_; have NB437_428 := n13_; clear n0_ n1_ n2_ n3_ n4_ n5_ n6_ n7_ n8_ n9_ n10_ n11_ n12_ n13_; clear hb hbox hg; have hnb68 := NB437_400.out; have hnc68 := NB400_437.out; have hnb69 := NB437_428.out; have hnc69 := NB428_437.out; have hcz70_0 : w67.cell? ⟨gb437, 0, none⟩ = some (.int .i64 0) := (blk_cell BK437.out 0).trans rfl; have hcz70_1 : w67.cell? ⟨gb437, 1, none⟩ = some (.slice none 0 0) := (blk_cell BK437.out 1).trans rfl; have hcz70_2 : w67.cell? ⟨gb437, 2, none⟩ = some (.slice none 0 0) := (blk_cell BK437.out 2).trans rfl; have hfz70_0 := blk_frozen BK437.out 0; have hfz70_1 := blk_frozen BK437.out 1; have hfz70_2 := blk_frozen BK437.out 2; obtain ⟨Ao71, co71, eo71⟩ := Kd.R_slice HO432.out; subst eo71; obtain ⟨Ao72, co72, eo72⟩ := Kd.R_slice HO435.out; subst eo72; have hcz73_0 : w67.cell? ⟨gb428, 0, none⟩ = some (.int .i64 t420) := (blk_cell BK428.out 0).trans rfl; have hcz73_1 : w67.cell? ⟨gb428, 1, none⟩ = some (.slice Ao64 t421.length co64) := (blk_cell BK428.out 1).trans rfl; have hcz73_2 : w67.cell? ⟨gb428, 2, none⟩ = some (.slice Ao65 t424.length co65) := (blk_cell BK428.out 2).trans rfl; have hfz73_0 := blk_frozen BK428.out 0; have hfz73_1 := blk_frozen BK428.out 1; have hfz73_2 := blk_frozen BK428.out 2) | ((with_reducible refine gate_callee (f := 17) rfl ?_); refine goesL_ (some 107) rfl rfl Try.func17 (by kernel_rfl) rfl #[.agg #[.int .i64 t420, .slice Ao64 t421.length co64, .slice Ao65 t424.length co65], .agg #[.int .i64 t429, .slice Ao71 t430.length co71, .slice Ao72 t433.length co72]] rfl (by (try simp only [List.map_toArray, List.map_cons, List.map_nil]); first | done | rfl | (simp only [List.length_drop, List.length_take]; rfl)) ?_; (with_reducible refine (quadratref06_Same.calls kj11 t420 _ _ t421 _ _ t424 t429 _ _ t430 _ _ t433 true _ ?side1 ?side2 ?side3 ?side4 ?side5 ?side6 ?side7 ?side8 A56.out).mono ?_); (case side1 => refine (Kd.R_reads' (e := 3) (base := w.heap.size) (ok := fun k_ => ((some k_ ≠ (.slice Ao65 t424.length co65 : Value).ownBlock ∧ some k_ ≠ (.slice Ao71 t430.length co71 : Value).ownBlock) ∧ some k_ ≠ (.slice Ao72 t433.length co72 : Value).ownBlock)) (n := t421.length) (c := co64) ?_).2.2; exact (by (with_reducible repeat first | apply Kd.R_alloc | apply Kd.R_drewN | apply Kd.R_drew); exact (Kd.R_mono (Kd.R_far (p := ⟨gb437, 2, none⟩) (Kd.R_far (p := ⟨gb437, 1, none⟩) (Kd.R_far (p := ⟨gb437, 0, none⟩) (Kd.R_types HO423.out BK437.out (by decide)) (fun _ hk => hk.2) (.int .i64 t429)) (fun _ hk => hk.2) (.slice Ao71 t430.length co71)) (fun _ hk => hk.2) (.slice Ao72 t433.length co72)) (fun _ h_ => h_.1)))); (case side2 => exact (Kd.R_reads' HO423.out).2.1); (case side3 => refine (Kd.R_reads' (e := 3) (base := w.heap.size) (ok := fun k_ => ((some k_ ≠ (.slice Ao64 t421.length co64 : Value).ownBlock ∧ some k_ ≠ (.slice Ao71 t430.length co71 : Value).ownBlock) ∧ some k_ ≠ (.slice Ao72 t433.length co72 : Value).ownBlock)) (n := t424.length) (c := co65) ?_).2.2; exact (by (with_reducible repeat first | apply Kd.R_alloc | apply Kd.R_drewN | apply Kd.R_drew); exact (Kd.R_mono (Kd.R_far (p := ⟨gb437, 2, none⟩) (Kd.R_far (p := ⟨gb437, 1, none⟩) (Kd.R_far (p := ⟨gb437, 0, none⟩) (Kd.R_types HO426.out BK437.out (by decide)) (fun _ hk => hk.2) (.int .i64 t429)) (fun _ hk => hk.2) (.slice Ao71 t430.length co71)) (fun _ hk => hk.2) (.slice Ao72 t433.length co72)) (fun _ h_ => h_.1)))); (case side4 => exact (Kd.R_reads' HO426.out).2.1); (case side5 => refine (Kd.R_reads' (e := 3) (base := w.heap.size) (ok := fun k_ => ((some k_ ≠ (.slice Ao72 t433.length co72 : Value).ownBlock ∧ some k_ ≠ (.slice Ao64 t421.length co64 : Value).ownBlock) ∧ some k_ ≠ (.slice Ao65 t424.length co65 : Value).ownBlock)) (n := t430.length) (c := co71) ?_).2.2; exact (by (with_reducible repeat first | apply Kd.R_alloc | apply Kd.R_drewN | apply Kd.R_drew); exact (Kd.R_mono (Kd.R_far (p := ⟨gb437, 2, none⟩) (Kd.R_far (p := ⟨gb437, 1, none⟩) (Kd.R_far (p := ⟨gb437, 0, none⟩) (Kd.R_types HO432.out BK437.out (by decide)) (fun _ hk => hk.2) (.int .i64 t429)) (fun _ hk => hk.2) (.slice Ao71 t430.length co71)) (fun _ hk => hk.2) (.slice Ao72 t433.length co72)) (fun _ h_ => h_.1)))); (case side6 => exact (Kd.R_reads' HO432.out).2.1); (case side7 => refine (Kd.R_reads' (e := 3) (base := w.heap.size) (ok := fun k_ => ((some k_ ≠ (.slice Ao71 t430.length co71 : Value).ownBlock ∧ some k_ ≠ (.slice Ao64 t421.length co64 : Value).ownBlock) ∧ some k_ ≠ (.slice Ao65 t424.length co65 : Value).ownBlock)) (n := t433.length) (c := co72) ?_).2.2; exact (by (with_reducible repeat first | apply Kd.R_alloc | apply Kd.R_drewN | apply Kd.R_drew); exact (Kd.R_mono (Kd.R_far (p := ⟨gb437, 2, none⟩) (Kd.R_far (p := ⟨gb437, 1, none⟩) (Kd.R_far (p := ⟨gb437, 0, none⟩) (Kd.R_types HO435.out BK437.out (by decide)) (fun _ hk => hk.2) (.int .i64 t429)) (fun _ hk => hk.2) (.slice Ao71 t430.length co71)) (fun _ hk => hk.2) (.slice Ao72 t433.length co72)) (fun _ h_ => h_.1)))); (case side8 => exact (Kd.R_reads' HO435.out).2.1); rintro e w74 ⟨rfl, hb⟩; refine ⟨_, rfl, ?_⟩; have n0_ := Aside0.mk (Kd.R_below (by (with_reducible repeat first | apply Kd.R_alloc | apply Kd.R_drewN | apply Kd.R_drew); exact (Kd.R_mono (Kd.R_far (p := ⟨gb437, 2, none⟩) (Kd.R_far (p := ⟨gb437, 1, none⟩) (Kd.R_far (p := ⟨gb437, 0, none⟩) (Kd.R_types HO423.out BK437.out (by decide)) (fun _ hk => hk.2) (.int .i64 t429)) (fun _ hk => hk.2) (.slice Ao71 t430.length co71)) (fun _ hk => hk.2) (.slice Ao72 t433.length co72)) (fun _ h_ => h_.1))) hb); have n1_ := Aside0.mk (Kd.R_below (by (with_reducible repeat first | apply Kd.R_alloc | apply Kd.R_drewN | apply Kd.R_drew); exact (Kd.R_mono (Kd.R_far (p := ⟨gb437, 2, none⟩) (Kd.R_far (p := ⟨gb437, 1, none⟩) (Kd.R_far (p := ⟨gb437, 0, none⟩) (Kd.R_types HO426.out BK437.out (by decide)) (fun _ hk => hk.2) (.int .i64 t429)) (fun _ hk => hk.2) (.slice Ao71 t430.length co71)) (fun _ hk => hk.2) (.slice Ao72 t433.length co72)) (fun _ h_ => h_.1))) hb); have n2_ := Aside0.mk (Kd.R_below (by (with_reducible repeat first | apply Kd.R_alloc | apply Kd.R_drewN | apply Kd.R_drew); exact (Kd.R_mono (Kd.R_far (p := ⟨gb437, 2, none⟩) (Kd.R_far (p := ⟨gb437, 1, none⟩) (Kd.R_far (p := ⟨gb437, 0, none⟩) (Kd.R_types HO432.out BK437.out (by decide)) (fun _ hk => hk.2) (.int .i64 t429)) (fun _ hk => hk.2) (.slice Ao71 t430.length co71)) (fun _ hk => hk.2) (.slice Ao72 t433.length co72)) (fun _ h_ => h_.1))) hb); have n3_ := Aside0.mk (Kd.R_below (by (with_reducible repeat first | apply Kd.R_alloc | apply Kd.R_drewN | apply Kd.R_drew); exact (Kd.R_mono (Kd.R_far (p := ⟨gb437, 2, none⟩) (Kd.R_far (p := ⟨gb437, 1, none⟩) (Kd.R_far (p := ⟨gb437, 0, none⟩) (Kd.R_types HO435.out BK437.out (by decide)) (fun _ hk => hk.2) (.int .i64 t429)) (fun _ hk => hk.2) (.slice Ao71 t430.length co71)) (fun _ hk => hk.2) (.slice Ao72 t433.length co72)) (fun _ h_ => h_.1))) hb); have n4_ := Aside0.mk (blk_below (g := gb400) (o := .cells #[.int .i64 a0_0, .slice A0_1 l0_1.length c0_1, .slice A0_2 l0_2.length c0_2] 31 (0, 0)) (by (with_reducible repeat first | apply blk_drewN | apply blk_drew | apply blk_alloc); refine blk_far ?_ NB400_437.out _; (with_reducible repeat first | apply blk_drewN | apply blk_drew | apply blk_alloc); refine blk_far ?_ NB400_437.out _; (with_reducible repeat first | apply blk_drewN | apply blk_drew | apply blk_alloc); refine blk_far ?_ NB400_437.out _; (with_reducible repeat first | apply blk_drewN | apply blk_drew | apply blk_alloc); exact BK400.out) hb); have n5_ := Aside0.mk (blk_below (g := gb428) (o := .cells #[.int .i64 t420, .slice Ao64 t421.length co64, .slice Ao65 t424.length co65] 31 (0, 0)) (by (with_reducible repeat first | apply blk_drewN | apply blk_drew | apply blk_alloc); refine blk_far ?_ NB428_437.out _; (with_reducible repeat first | apply blk_drewN | apply blk_drew | apply blk_alloc); refine blk_far ?_ NB428_437.out _; (with_reducible repeat first | apply blk_drewN | apply blk_drew | apply blk_alloc); refine blk_far ?_ NB428_437.out _; (with_reducible repeat first | apply blk_drewN | apply blk_drew | apply blk_alloc); exact BK428.out) hb); have n6_ := Aside0.mk (blk_below (g := gb437) (o := .cells #[.int .i64 t429, .slice Ao71 t430.length co71, .slice Ao72 t433.length co72] 31 (0, 0)) (by (with_reducible repeat first | apply blk_drewN | apply blk_drew | apply blk_alloc); refine blk_put (cs := #[.int .i64 t429, .slice Ao71 t430.length co71, .slice none 0 0]) ?_ 2 _ rfl; (with_reducible repeat first | apply blk_drewN | apply blk_drew | apply blk_alloc); refine blk_put (cs := #[.int .i64 t429, .slice none 0 0, .slice none 0 0]) ?_ 1 _ rfl; (with_reducible repeat first | apply blk_drewN | apply blk_drew | apply blk_alloc); refine blk_put (cs := #[.int .i64 0, .slice none 0 0, .slice none 0 0]) ?_ 0 _ rfl; (with_reducible repeat first | apply blk_drewN | apply blk_drew | apply blk_alloc); exact BK437.out) hb); have n7_ := Aside0.mk (below_step (by repeat (first | (with_reducible first | exact HB.out | apply below_alloc | apply pw_below_drewN | apply below_drew1 | refine below_set ?_ GE400.out | refine below_set ?_ GE428.out | refine below_set ?_ GE437.out) | exact HB.out)) hb); clear HO423; clear HO426; clear HO432; clear HO435; clear BK400; clear BK428; clear BK437; clear HB; have HO423 := n0_; have HO426 := n1_; have HO432 := n2_; have HO435 := n3_; have BK400 := n4_; have BK428 := n5_; have BK437 := n6_; have HB := n7_; clear n0_ n1_ n2_ n3_ n4_ n5_ n6_ n7_; (try clear hb); (try clear hb2); (try clear hk); (try clear hi)) | (go_at_call 14; (with_reducible refine (quadratlaw06_Awake.calls kj11  t439 _ A59.out).mono ?_); rintro e w75 ⟨rfl, hb⟩; have n0_ := Aside0.mk (Kd.R_below (by (with_reducible repeat first | apply Kd.R_alloc | apply Kd.R_drewN | apply Kd.R_drew); exact HO423.out) hb); have n1_ := Aside0.mk (Kd.R_below (by (with_reducible repeat first | apply Kd.R_alloc | apply Kd.R_drewN | apply Kd.R_drew); exact HO426.out) hb); have n2_ := Aside0.mk (Kd.R_below (by (with_reducible repeat first | apply Kd.R_alloc | apply Kd.R_drewN | apply Kd.R_drew); exact HO432.out) hb); have n3_ := Aside0.mk (Kd.R_below (by (with_reducible repeat first | apply Kd.R_alloc | apply Kd.R_drewN | apply Kd.R_drew); exact HO435.out) hb); have n4_ := Aside0.mk (blk_below (g := gb400) (o := .cells #[.int .i64 a0_0, .slice A0_1 l0_1.length c0_1, .slice A0_2 l0_2.length c0_2] 31 (0, 0)) (by (with_reducible repeat first | apply blk_drewN | apply blk_drew | apply blk_alloc); exact BK400.out) hb); have n5_ := Aside0.mk (blk_below (g := gb428) (o := .cells #[.int .i64 t420, .slice Ao64 t421.length co64, .slice Ao65 t424.length co65] 31 (0, 0)) (by (with_reducible repeat first | apply blk_drewN | apply blk_drew | apply blk_alloc); exact BK428.out) hb); have n6_ := Aside0.mk (blk_below (g := gb437) (o := .cells #[.int .i64 t429, .slice Ao71 t430.length co71, .slice Ao72 t433.length co72] 31 (0, 0)) (by (with_reducible repeat first | apply blk_drewN | apply blk_drew | apply blk_alloc); exact BK437.out) hb); have n7_ := Aside0.mk (below_step (by repeat (first | (with_reducible first | exact HB.out | apply below_alloc | apply pw_below_drewN | apply below_drew1 | refine below_set ?_ GE400.out | refine below_set ?_ GE428.out | refine below_set ?_ GE437.out) | exact HB.out)) hb); clear HO423; clear HO426; clear HO432; clear HO435; clear BK400; clear BK428; clear BK437; clear HB; have HO423 := n0_; have HO426 := n1_; have HO432 := n2_; have HO435 := n3_; have BK400 := n4_; have BK428 := n5_; have BK437 := n6_; have HB := n7_; clear n0_ n1_ n2_ n3_ n4_ n5_ n6_ n7_; (try clear hb); (try clear hb2); (try clear hk); (try clear hi)))
   go_ret
   exact ⟨by first | rfl | (simp [errW_none, errW_some] <;> rfl) | (simp [*, errW_none, errW_some] <;> rfl), by repeat (first | (with_reducible first | exact HB.out | apply below_alloc | apply pw_below_drewN | apply below_drew1 | refine below_set ?_ GE400.out | refine below_set ?_ GE428.out | refine below_set ?_ GE437.out) | exact HB.out)⟩

end Go.Proofs.Yticjlkommabcjaa.PS
