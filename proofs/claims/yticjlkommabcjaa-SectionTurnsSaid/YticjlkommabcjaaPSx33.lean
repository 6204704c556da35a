-- Printed by wip/qprint.py of this repository, over the kit's print, out of the translation. Not trusted: Lean checks it.
import Derived.Test.YticjlkommabcjaaPSx0
import Derived.Test.YticjlkommabcjaaUp
namespace Go.Proofs.Yticjlkommabcjaa.PS
open Go.RowKit Go.Proofs.YticjlkommabcjaaW.PrintWords Go.Proofs.YticjlkommabcjaaW.PrintLast Go.Proofs.YticjlkommabcjaaW.PrintMore
attribute [local go_sem] max2_int min2_int max_two min_two max_three min_three max_four min_four   -- for this text's walks alone
set_option linter.unusedVariables false
set_option linter.unusedSimpArgs false
set_option maxRecDepth 100000

/-! ### quadratref06_Copy: function 55 -/
def quadratref06_Copy.f (a0_0 : Int) (Xh : List Int) (Xg : List Int) : Option (Int × List Int × List Int) := (some (([] : List Int) : List Int)).bind fun y487 => (if y487.length + Xh.length < 17592186044416 then ((some (([] : List Int) : List Int)).bind fun y493 => (if y493.length + Xg.length < 17592186044416 then (some (a0_0, (y487 ++ Xh), (y493 ++ Xg))) else (none))) else (none))
def quadratref06_Copy.T1 : Bool × List (List Nat × List Nat) := (true, [([], []), ([0], [0]), ([], []), ([], []), ([3], [3]), ([2, 4], [2, 4]), ([], []), ([], []), ([7], [7]), ([6, 8, 5], [6, 8]), ([1, 5, 9], [1, 5, 9]), ([10, 9, 0, 1, 2, 3, 4, 5, 6, 7, 8, 9, 10], [10])])
def quadratref06_Copy.B1 : List Nat := [0, 1, 0, 0, 8, 28, 0, 0, 128, 508, 1023, 2047]
theorem quadratref06_Copy.tab1 : rtab .any (opsOf Try.f55 1) = quadratref06_Copy.T1 := by kernel_rfl
theorem quadratref06_Copy.bits1 : waitsOk quadratref06_Copy.T1.2 quadratref06_Copy.B1 = true := by kernel_rfl
set_option maxHeartbeats 8000000 in
set_option maxRecDepth 100000 in
theorem quadratref06_Copy.calls (a0_0 : Int) (Xm : Option Addr) (Xn : Nat) (Xh : List Int) (Xo : Option Addr) (Xp : Nat) (Xg : List Int) (r1 : Int) (r2 : List Int) (r3 : List Int) (w : World) (hr0_1 : Kd.C (Kd.int .i64) w Xm Xh.length Xh) (hc0_1 : Xh.length ≤ Xn) (hr0_2 : Kd.C (Kd.int .i64) w Xo Xg.length Xg) (hc0_2 : Xg.length ≤ Xp) (h : quadratref06_Copy.f a0_0 Xh Xg = some (r1, r2, r3)) :
    Calls Try.prog 55 #[.agg #[.int .i64 a0_0, .slice Xm Xh.length Xn, .slice Xo Xg.length Xp]] w fun e w' => ∃ v1_ v2_ : Value, e = .returned (.agg #[.int .i64 r1, v1_, v2_]) ∧ Kd.R (Kd.int .i64) 3 w' w.heap.size (fun k_ => some k_ ≠ (v2_ : Value).ownBlock) v1_ r2 ∧ Kd.R (Kd.int .i64) 3 w' w.heap.size (fun k_ => some k_ ≠ (v1_ : Value).ownBlock) v2_ r3 ∧ Below w.heap.size w w' := by
  have hu31 := Try.underlying31
  have Xx := Aside0.mk hr0_1
  have XE := Aside0.mk hc0_1
  clear hr0_1 hc0_1
  have XD := Aside0.mk hr0_2
  have XF := Aside0.mk hc0_2
  clear hr0_2 hc0_2
  have HB := Aside0.mk (Below.refl w.heap.size w)
  have H : ((some (([] : List Int) : List Int)).bind fun y487 => (if y487.length + Xh.length < 17592186044416 then ((some (([] : List Int) : List Int)).bind fun y493 => (if y493.length + Xg.length < 17592186044416 then (some (a0_0, (y487 ++ Xh), (y493 ++ Xg))) else (none))) else (none))) = some (r1, r2, r3) := h
  clear h
  obtain ⟨y487, hy487⟩ : ∃ y_ : List Int, y_ = (([] : List Int)) := ⟨_, rfl⟩
  replace H : (if y487.length + Xh.length < 17592186044416 then ((some (([] : List Int) : List Int)).bind fun y493 => (if y493.length + Xg.length < 17592186044416 then (some (a0_0, (y487 ++ Xh), (y493 ++ Xg))) else (none))) else (none)) = some (r1, r2, r3) := by first | (rw [hy487]; with_reducible exact H) | (have Xw := (Option.bind_some _ _).symm.trans H; rw [hy487]; with_reducible exact Xw) | (have Xw := (Option.bind_some _ _).symm.trans H; with_reducible exact Xw) | with_reducible exact H | (rw [hy487]; exact H) | exact H
  have Ny487 := Aside0.mk hy487
  clear hy487
  by_cases c2 : y487.length + Xh.length < 17592186044416
  case neg =>
   rw [if_neg c2] at H
   exact absurd H (by simp)
  rw [if_pos c2] at H
  have LMc2 := Aside0.mk c2
  clear c2
  obtain ⟨y490, hy490⟩ : ∃ y_ : List Int, y_ = (y487 ++ Xh) := ⟨_, rfl⟩
  replace H : ((some (([] : List Int) : List Int)).bind fun y493 => (if y493.length + Xg.length < 17592186044416 then (some (a0_0, y490, (y493 ++ Xg))) else (none))) = some (r1, r2, r3) := by first | (rw [hy490]; with_reducible exact H) | (have Xw := (Option.bind_some _ _).symm.trans H; rw [hy490]; with_reducible exact Xw) | (have Xw := (Option.bind_some _ _).symm.trans H; with_reducible exact Xw) | with_reducible exact H | (rw [hy490]; exact H) | exact H
  have Ny490 := Aside0.mk hy490
  clear hy490
  obtain ⟨y493, hy493⟩ : ∃ y_ : List Int, y_ = (([] : List Int)) := ⟨_, rfl⟩
  replace H : (if y493.length + Xg.length < 17592186044416 then (some (a0_0, y490, (y493 ++ Xg))) else (none)) = some (r1, r2, r3) := by first | (rw [hy493]; with_reducible exact H) | (have Xw := (Option.bind_some _ _).symm.trans H; rw [hy493]; with_reducible exact Xw) | (have Xw := (Option.bind_some _ _).symm.trans H; with_reducible exact Xw) | with_reducible exact H | (rw [hy493]; exact H) | exact H
  have Ny493 := Aside0.mk hy493
  clear hy493
  by_cases c3 : y493.length + Xg.length < 17592186044416
  case neg =>
   rw [if_neg c3] at H
   exact absurd H (by simp)
  rw [if_pos c3] at H
  have LMc3 := Aside0.mk c3
  clear c3
  obtain ⟨y496, hy496⟩ : ∃ y_ : List Int, y_ = (y493 ++ Xg) := ⟨_, rfl⟩
  replace H : (some (a0_0, y490, y496)) = some (r1, r2, r3) := by first | (rw [hy496]; with_reducible exact H) | (have Xw := (Option.bind_some _ _).symm.trans H; rw [hy496]; with_reducible exact Xw) | (have Xw := (Option.bind_some _ _).symm.trans H; with_reducible exact Xw) | with_reducible exact H | (rw [hy496]; exact H) | exact H
  have Ny496 := Aside0.mk hy496
  clear hy496
  simp only [Option.some.injEq, Prod.mk.injEq] at H
  obtain ⟨rfl, rfl, rfl⟩ := H
  go_enter Try.func55, Try.ntmps55
  try go_wp2_with (first | ((with_reducible refine gate_dst (N := 1) rfl ?_); refine box_event ?hg (N := 1) ?hd (cs := #[.int .i64 a0_0, .slice Xm Xh.length Xn, .slice Xo Xg.length Xp]) (t := 31) ?hr ?_; (case hd => rfl); (case hg => rfl); (case hr => first | (go_simp; done) | (go_simp; rfl)); intro Xe hg w4 hbox hb; have Xq := Aside0.mk (below_step (by exact upL HB.out) hb); have Xr := Aside0.mk (hbox); have Xs := Aside0.mk ((by rw [hg]; exact (below_size (by exact upL HB.out)) : w.heap.size ≤ Xe)); have Xt := Aside0.mk ((by rw [hg]; exact (below_size (by exact upL HB.out)) : w.heap.size ≤ Xe)); clear HB; have HB := Xq; have Xa := Xr; have XG := Xs; have Xf := Xt; clear Xq Xr Xs Xt; clear hb hbox hg) | ((with_reducible refine gate_dst (N := 2) rfl ?_); refine box_event ?hg (N := 2) ?hd (cs := #[.int .i64 0, .slice none 0 0, .slice none 0 0]) (t := 31) ?hr ?_; (case hd => rfl); (case hg => rfl); (case hr => first | (go_simp; done) | (go_simp; rfl)); intro Xc hg w5 hbox hb; have Xq := Aside0.mk (blk_below (g := Xe) (o := .cells #[.int .i64 a0_0, .slice Xm Xh.length Xn, .slice Xo Xg.length Xp] 31 (0, 0)) (by exact upB Xa.out) hb); have Xr := Aside0.mk (below_step (by repeat (first | (with_reducible first | exact HB.out | apply upS | refine below_set ?_ Xf.out) | exact HB.out)) hb); have Xs := Aside0.mk (hbox); have Xt := Aside0.mk ((by rw [hg]; exact (below_size (by repeat (first | (with_reducible first | exact HB.out | apply upS | refine below_set ?_ Xf.out) | exact HB.out))) : w.heap.size ≤ Xc)); have Xv := Aside0.mk ((by rw [hg]; exact (below_size (by repeat (first | (with_reducible first | exact HB.out | apply upS | refine below_set ?_ Xf.out) | exact HB.out))) : w.heap.size ≤ Xc)); have XH := Aside0.mk ((by rw [hg]; exact Nat.ne_of_lt (blk_lt (g := Xe) (o := .cells #[.int .i64 a0_0, .slice Xm Xh.length Xn, .slice Xo Xg.length Xp] 31 (0, 0)) (by exact upB Xa.out)) : Xe ≠ Xc)); have XI := Aside0.mk ((by rw [hg]; exact Nat.ne_of_gt (blk_lt (g := Xe) (o := .cells #[.int .i64 a0_0, .slice Xm Xh.length Xn, .slice Xo Xg.length Xp] 31 (0, 0)) (by exact upB Xa.out)) : Xc ≠ Xe)); clear Xa; clear HB; have Xa := Xq; have HB := Xr; have Xb := Xs; have XJ := Xt; have Xi := Xv; have Xd := XH; have Xu := XI; clear Xq Xr Xs Xt Xv XH XI; clear hb hbox hg))
  have Xq := Aside0.mk (blk_drew Xa.out)
  have Xr := Aside0.mk (blk_drew Xb.out)
  have Xs := Aside0.mk (below_drew1 HB.out)
  clear Xa
  clear Xb
  clear HB
  have Xa := Xq
  have Xb := Xr
  have HB := Xs
  clear Xq Xr Xs
  refine start_ (n := 12) (S := fun w' => w'.cell? ⟨Xe, 0, none⟩ = some (.int .i64 a0_0) ∧ w'.cell? ⟨Xe, 1, none⟩ = some (.slice Xm Xh.length Xn) ∧ w'.cell? ⟨Xe, 2, none⟩ = some (.slice Xo Xg.length Xp)) (ds := []) #[false, false, false, false, false, false, false, false, false, false, false, false] (by kernel_rfl) rfl rfl ⟨(blk_cell Xa.out 0).trans rfl, (blk_cell Xa.out 1).trans rfl, (blk_cell Xa.out 2).trans rfl⟩ (fun hHeld => ?_); refine with_tabW quadratref06_Copy.tab1 quadratref06_Copy.bits1 (fun HT_ HW_ => ?_)
  generalize w5.drew = w6 at Xa Xb HB hHeld ⊢
  refine pure_ (i := 0) (N := some 3) (v := ?_) (a' := ?_) #[true, false, false, false, false, false, false, false, false, false, false, false] rfl rfl (any_of HT_.out (by kernel_rfl)) (fun _ _ _ h => h) (Or.inl ⟨by rfl, ?_⟩) ?_ ?_
  rotate_left
  · intro w'; go_simp; with_reducible rfl
  rotate_left
  · simp only [Act.put, List.setIfInBounds_toArray, List.set_cons_zero, List.set_cons_succ, i64_w, i32_w]; rfl
  refine pure_ (i := 3) (N := some 6) (v := ?_) (a' := ?_) #[true, false, false, true, false, false, false, false, false, false, false, false] rfl rfl (any_of HT_.out (by kernel_rfl)) (fun _ _ _ h => h) (Or.inl ⟨by rfl, ?_⟩) ?_ ?_
  rotate_left
  · intro w'; go_simp; with_reducible rfl
  rotate_left
  · simp only [Act.put, List.setIfInBounds_toArray, List.set_cons_zero, List.set_cons_succ, i64_w, i32_w]; rfl
  refine pure_ (i := 7) (N := some 10) (v := ?_) (a' := ?_) #[true, false, false, true, false, false, false, true, false, false, false, false] rfl rfl (any_of HT_.out (by kernel_rfl)) (fun _ _ _ h => h) (Or.inl ⟨by rfl, ?_⟩) ?_ ?_
  rotate_left
  · intro w'; go_simp; with_reducible rfl
  rotate_left
  · simp only [Act.put, List.setIfInBounds_toArray, List.set_cons_zero, List.set_cons_succ, i64_w, i32_w]; rfl
  refine take_ (i := 1) (N := some 4) (v := ?_) (a' := ?_) #[true, true, false, true, false, false, false, true, false, false, false, false] rfl rfl (take_ofW HT_.out HW_.out (by kernel_rfl)) (fun _ _ _ h => h) (Or.inl ⟨by rfl, ?_⟩) hHeld ?_ ?_
  rotate_left
  · rintro w' ⟨s0, s1, s2⟩
    go_simp
    with_reducible rfl
  rotate_left
  · simp only [Act.put, List.setIfInBounds_toArray, List.set_cons_zero, List.set_cons_succ, i64_w, i32_w]; rfl
  refine take_ (i := 4) (N := some 7) (v := ?_) (a' := ?_) #[true, true, false, true, true, false, false, true, false, false, false, false] rfl rfl (take_ofW HT_.out HW_.out (by kernel_rfl)) (fun _ _ _ h => h) (Or.inl ⟨by rfl, ?_⟩) hHeld ?_ ?_
  rotate_left
  · rintro w' ⟨s0, s1, s2⟩
    go_simp
    with_reducible rfl
  rotate_left
  · simp only [Act.put, List.setIfInBounds_toArray, List.set_cons_zero, List.set_cons_succ, i64_w, i32_w]; rfl
  refine take_ (i := 8) (N := some 11) (v := ?_) (a' := ?_) #[true, true, false, true, true, false, false, true, true, false, false, false] rfl rfl (take_ofW HT_.out HW_.out (by kernel_rfl)) (fun _ _ _ h => h) (Or.inl ⟨by rfl, ?_⟩) hHeld ?_ ?_
  rotate_left
  · rintro w' ⟨s0, s1, s2⟩
    go_simp
    with_reducible rfl
  rotate_left
  · simp only [Act.put, List.setIfInBounds_toArray, List.set_cons_zero, List.set_cons_succ, i64_w, i32_w]; rfl
  refine join_ (σ := Value × Value × Value) 3 #[true, true, true, true, true, true, true, true, true, false, false, false] (fun s_ => [(5, s_.1), (8, s_.2.1), (9, s_.2.2)]) (fun s_ w' => (w'.cell? ⟨Xe, 0, none⟩ = some (.int .i64 a0_0) ∧ w'.cell? ⟨Xe, 1, none⟩ = some (.slice Xm Xh.length Xn) ∧ w'.cell? ⟨Xe, 2, none⟩ = some (.slice Xo Xg.length Xp)) ∧ (Kd.R (Kd.int .i64) 3 w' w.heap.size (fun k_ => some k_ ≠ (s_.2.2 : Value).ownBlock) s_.2.1 y490) ∧ (Kd.R (Kd.int .i64) 3 w' w.heap.size (fun k_ => some k_ ≠ (s_.2.1 : Value).ownBlock) s_.2.2 y493) ∧ (w'.heap[Xe]? = some (.cells #[.int .i64 a0_0, .slice Xm Xh.length Xn, .slice Xo Xg.length Xp] 31 (0, 0))) ∧ (w'.heap[Xc]? = some (.cells #[.int .i64 0, .slice none 0 0, .slice none 0 0] 31 (0, 0))) ∧ (Below w.heap.size w w')) ?_ ?_
  rotate_left
  · intro hCont
    refine two_ (i := 2) (j := 6) (Ni := some 5) (Nj := some 9) #[true, true, true, true, true, false, false, true, true, false, false, false] #[true, true, false, true, true, false, true, true, true, false, false, false] rfl rfl rfl rfl (two_of HT_.out (by kernel_rfl)) (by decide) (by decide) (fun K hK => ?_) (fun K hK => ?_)
    · skip
      refine Kd.R_lit_step (Kd.int .i64) _ 3 ?hg (N := 5) ?hd (xs := ([] : List Int)) (inner := []) (ok := fun _ => True) (okp := fun _ => True) ?hr ?hp (fun _ hk => hk) trivial (Below.refl _ _) (Nat.le_refl _) (by simp) ?_; (case hd => rfl); (case hg => rfl); (case hr => first | (go_simp; done) | (go_simp; rfl)); (case hp => exact (Reps.none _ _))
      intro v488 w7 ho8 hb hg_ hnew_
      clear hg_ hnew_
      (first | rw [← Ny487.out] at ho8 | (simp only [Int.reduceToNat] at ho8; rw [← Ny487.out] at ho8))
      have Xq := Aside0.mk (Kd.R_lower ho8 (below_size (by repeat (first | (with_reducible first | exact HB.out | apply upS | refine below_set ?_ Xf.out | refine below_set ?_ Xi.out) | exact HB.out))))
      have Xr := Aside0.mk (blk_below (g := Xe) (o := .cells #[.int .i64 a0_0, .slice Xm Xh.length Xn, .slice Xo Xg.length Xp] 31 (0, 0)) (by exact upB Xa.out) hb)
      have Xs := Aside0.mk (blk_below (g := Xc) (o := .cells #[.int .i64 0, .slice none 0 0, .slice none 0 0] 31 (0, 0)) (by exact upB Xb.out) hb)
      have Xt := Aside0.mk (below_step (by repeat (first | (with_reducible first | exact HB.out | apply upS | refine below_set ?_ Xf.out | refine below_set ?_ Xi.out) | exact HB.out)) hb)
      clear Xa
      clear Xb
      clear HB
      have Xk := Xq
      have Xa := Xr
      have Xb := Xs
      have HB := Xt
      clear Xq Xr Xs Xt
      clear hb ho8
      refine hK.out _ _ ⟨(blk_cell Xa.out 0).trans rfl, (blk_cell Xa.out 1).trans rfl, (blk_cell Xa.out 2).trans rfl⟩ (fun hHeld => ?_)
      clear hK K
      refine norm_ (a' := ?_) ?_ ?_
      rotate_left
      · show Act.put _ (some 5) _ = _
        simp only [Act.put, List.setIfInBounds_toArray, List.set_cons_zero, List.set_cons_succ, i64_w, i32_w]
        rfl
      refine two_ (i := 5) (j := 6) (Ni := some 8) (Nj := some 9) #[true, true, true, true, true, true, false, true, true, false, false, false] #[true, true, true, true, true, false, true, true, true, false, false, false] rfl rfl rfl rfl (two_of HT_.out (by kernel_rfl)) (by decide) (by decide) (fun K hK => ?_) (fun K hK => ?_)
      · skip
        refine Kd.R_append_rows_step (Kd.int .i64) (w0 := w) w.heap.size (by rfl) (.tmp 5) (.tmp 7) 29 3 (.int .i64 0) 8 rfl Try.underlying29 info3 rfl (by decide) (by omega) v488 y487 Xh _ _ _ (fun _ => True) (fun _ => False) rfl rfl ?aO ?aR (fun _ _ h => h) (fun _ h => h.elim) ?aF ?aB ?aS ?aL ?_
        (case aR => repeat (first | exact (Kd.C_below Xx.out HB.out) | (with_reducible refine Kd.C_alloc ?_ _) | (with_reducible refine Kd.C_drewN ?_ _) | (with_reducible refine Kd.C_drew ?_)))
        (case aB => exact (by repeat (first | (with_reducible first | exact HB.out | apply upS | refine below_set ?_ Xf.out | refine below_set ?_ Xi.out) | exact HB.out)))
        (case aF => exact (fun _ _ => trivial))
        (case aO => exact (by (with_reducible repeat apply upG); exact Xk.out))
        (case aS => exact (below_size (by repeat (first | (with_reducible first | exact HB.out | apply upS | refine below_set ?_ Xf.out | refine below_set ?_ Xi.out) | exact HB.out))))
        (case aL => have := LMc2.out; omega)
        intro v491 w9 ho hb hg hat
        rw [← Ny490.out] at ho
        have Xq := Aside0.mk (blk_grown (g := Xe) (o := .cells #[.int .i64 a0_0, .slice Xm Xh.length Xn, .slice Xo Xg.length Xp] 31 (0, 0)) (by exact upB Xa.out) hg (Kd.R_ne Xk.out Xa.out (by decide)))
        have Xr := Aside0.mk (blk_grown (g := Xc) (o := .cells #[.int .i64 0, .slice none 0 0, .slice none 0 0] 31 (0, 0)) (by exact upB Xb.out) hg (Kd.R_ne Xk.out Xb.out (by decide)))
        have Xs := Aside0.mk (hb)
        have Xt := Aside0.mk (ho)
        clear Xa
        clear Xb
        clear HB
        clear Xk
        have Xa := Xq
        have Xb := Xr
        have HB := Xs
        have Xl := Xt
        clear Xq Xr Xs Xt
        clear ho hb hg hat
        refine hK.out _ _ ⟨(blk_cell Xa.out 0).trans rfl, (blk_cell Xa.out 1).trans rfl, (blk_cell Xa.out 2).trans rfl⟩ (fun hHeld => ?_)
        clear hK K
        refine norm_ (a' := ?_) ?_ ?_
        rotate_left
        · show Act.put _ (some 8) _ = _
          simp only [Act.put, List.setIfInBounds_toArray, List.set_cons_zero, List.set_cons_succ, i64_w, i32_w]
          rfl
        refine one_ (i := 6) (N := some 9) #[true, true, true, true, true, true, true, true, true, false, false, false] rfl rfl (one_of HT_.out (by kernel_rfl)) (by decide) (fun K hK => ?_)
        refine Kd.R_lit_step (Kd.int .i64) _ 3 ?hg (N := 9) ?hd (xs := ([] : List Int)) (inner := []) (ok := fun _ => True) (okp := fun _ => True) ?hr ?hp (fun _ hk => hk) trivial (Below.refl _ _) (Nat.le_refl _) (by simp) ?_; (case hd => rfl); (case hg => rfl); (case hr => first | (go_simp; done) | (go_simp; rfl)); (case hp => exact (Reps.none _ _))
        intro v494 w10 ho11 hb hg_ hnew_
        clear hg_ hnew_
        (first | rw [← Ny493.out] at ho11 | (simp only [Int.reduceToNat] at ho11; rw [← Ny493.out] at ho11))
        have Xq := Aside0.mk (Kd.R_elder' (by (with_reducible repeat apply upG); exact Xl.out) (Kd.R_base ho11) hb)
        have Xr := Aside0.mk (Kd.R_lower (Kd.R_new' ho11 (Kd.R_lt (by (with_reducible repeat apply upG); exact Xl.out))) (below_size (by repeat (first | (with_reducible first | exact HB.out | apply upS | refine below_set ?_ Xf.out | refine below_set ?_ Xi.out) | exact HB.out))))
        have Xs := Aside0.mk (blk_below (g := Xe) (o := .cells #[.int .i64 a0_0, .slice Xm Xh.length Xn, .slice Xo Xg.length Xp] 31 (0, 0)) (by exact upB Xa.out) hb)
        have Xt := Aside0.mk (blk_below (g := Xc) (o := .cells #[.int .i64 0, .slice none 0 0, .slice none 0 0] 31 (0, 0)) (by exact upB Xb.out) hb)
        have Xv := Aside0.mk (below_step (by repeat (first | (with_reducible first | exact HB.out | apply upS | refine below_set ?_ Xf.out | refine below_set ?_ Xi.out) | exact HB.out)) hb)
        clear Xl
        clear Xa
        clear Xb
        clear HB
        have Xl := Xq
        have Xj := Xr
        have Xa := Xs
        have Xb := Xt
        have HB := Xv
        clear Xq Xr Xs Xt Xv
        clear hb ho11
        refine hK.out _ _ ⟨(blk_cell Xa.out 0).trans rfl, (blk_cell Xa.out 1).trans rfl, (blk_cell Xa.out 2).trans rfl⟩ (fun hHeld => ?_)
        clear hK K
        refine norm_ (a' := ?_) ?_ ?_
        rotate_left
        · show Act.put _ (some 9) _ = _
          simp only [Act.put, List.setIfInBounds_toArray, List.set_cons_zero, List.set_cons_succ, i64_w, i32_w]
          rfl
        exact norm_ (by simp only [putAll, Act.put, List.setIfInBounds_toArray, List.set_cons_zero, List.set_cons_succ]) (hCont (v488, v491, v494) _ ⟨hHeld, (by (with_reducible repeat apply upG); exact Kd.R_mono Xl.out (fun _ hk => hk.2)), (by (with_reducible repeat apply upG); exact Kd.R_mono Xj.out (fun _ hk => hk.2)), (by exact upB Xa.out), (by exact upB Xb.out), (by repeat (first | (with_reducible first | exact HB.out | apply upS | refine below_set ?_ Xf.out | refine below_set ?_ Xi.out) | exact HB.out))⟩)
      skip
      refine Kd.R_lit_step (Kd.int .i64) _ 3 ?hg (N := 9) ?hd (xs := ([] : List Int)) (inner := []) (ok := fun _ => True) (okp := fun _ => True) ?hr ?hp (fun _ hk => hk) trivial (Below.refl _ _) (Nat.le_refl _) (by simp) ?_; (case hd => rfl); (case hg => rfl); (case hr => first | (go_simp; done) | (go_simp; rfl)); (case hp => exact (Reps.none _ _))
      intro v494 w9 ho10 hb hg_ hnew_
      clear hg_ hnew_
      (first | rw [← Ny493.out] at ho10 | (simp only [Int.reduceToNat] at ho10; rw [← Ny493.out] at ho10))
      have Xq := Aside0.mk (Kd.R_elder' (by (with_reducible repeat apply upG); exact Xk.out) (Kd.R_base ho10) hb)
      have Xr := Aside0.mk (Kd.R_lower (Kd.R_new' ho10 (Kd.R_lt (by (with_reducible repeat apply upG); exact Xk.out))) (below_size (by repeat (first | (with_reducible first | exact HB.out | apply upS | refine below_set ?_ Xf.out | refine below_set ?_ Xi.out) | exact HB.out))))
      have Xs := Aside0.mk (blk_below (g := Xe) (o := .cells #[.int .i64 a0_0, .slice Xm Xh.length Xn, .slice Xo Xg.length Xp] 31 (0, 0)) (by exact upB Xa.out) hb)
      have Xt := Aside0.mk (blk_below (g := Xc) (o := .cells #[.int .i64 0, .slice none 0 0, .slice none 0 0] 31 (0, 0)) (by exact upB Xb.out) hb)
      have Xv := Aside0.mk (below_step (by repeat (first | (with_reducible first | exact HB.out | apply upS | refine below_set ?_ Xf.out | refine below_set ?_ Xi.out) | exact HB.out)) hb)
      clear Xk
      clear Xa
      clear Xb
      clear HB
      have Xk := Xq
      have Xj := Xr
      have Xa := Xs
      have Xb := Xt
      have HB := Xv
      clear Xq Xr Xs Xt Xv
      clear hb ho10
      refine hK.out _ _ ⟨(blk_cell Xa.out 0).trans rfl, (blk_cell Xa.out 1).trans rfl, (blk_cell Xa.out 2).trans rfl⟩ (fun hHeld => ?_)
      clear hK K
      refine norm_ (a' := ?_) ?_ ?_
      rotate_left
      · show Act.put _ (some 9) _ = _
        simp only [Act.put, List.setIfInBounds_toArray, List.set_cons_zero, List.set_cons_succ, i64_w, i32_w]
        rfl
      refine one_ (i := 5) (N := some 8) #[true, true, true, true, true, true, true, true, true, false, false, false] rfl rfl (one_of HT_.out (by kernel_rfl)) (by decide) (fun K hK => ?_)
      refine Kd.R_append_rows_step (Kd.int .i64) (w0 := w) w.heap.size (by rfl) (.tmp 5) (.tmp 7) 29 3 (.int .i64 0) 8 rfl Try.underlying29 info3 rfl (by decide) (by omega) v488 y487 Xh _ _ _ (fun k_ => some k_ ≠ (v494 : Value).ownBlock) (fun _ => False) rfl rfl ?aO ?aR (fun _ _ h => h) (fun _ h => h.elim) ?aF ?aB ?aS ?aL ?_
      (case aR => repeat (first | exact (Kd.C_below Xx.out HB.out) | (with_reducible refine Kd.C_alloc ?_ _) | (with_reducible refine Kd.C_drewN ?_ _) | (with_reducible refine Kd.C_drew ?_)))
      (case aB => exact (by repeat (first | (with_reducible first | exact HB.out | apply upS | refine below_set ?_ Xf.out | refine below_set ?_ Xi.out) | exact HB.out)))
      (case aF => exact (fun k_ hk => Kd.fresh' (Kd.R_lt (by (with_reducible repeat apply upG); exact Xj.out)) k_ hk))
      (case aO => exact (by (with_reducible repeat apply upG); exact Kd.R_mono Xk.out (fun _ hk => hk.2)))
      (case aS => exact (below_size (by repeat (first | (with_reducible first | exact HB.out | apply upS | refine below_set ?_ Xf.out | refine below_set ?_ Xi.out) | exact HB.out))))
      (case aL => have := LMc2.out; omega)
      intro v491 w11 ho hb hg hat
      rw [← Ny490.out] at ho
      have Xq := Aside0.mk (blk_grown (g := Xe) (o := .cells #[.int .i64 a0_0, .slice Xm Xh.length Xn, .slice Xo Xg.length Xp] 31 (0, 0)) (by exact upB Xa.out) hg (Kd.R_ne Xk.out Xa.out (by decide)))
      have Xr := Aside0.mk (blk_grown (g := Xc) (o := .cells #[.int .i64 0, .slice none 0 0, .slice none 0 0] 31 (0, 0)) (by exact upB Xb.out) hg (Kd.R_ne Xk.out Xb.out (by decide)))
      have Xs := Aside0.mk (Kd.R_after (ok := (fun _ => True)) (by (with_reducible repeat apply upG); exact Xj.out) hg hat)
      have Xt := Aside0.mk (hb)
      have Xv := Aside0.mk (ho)
      clear Xa
      clear Xb
      clear Xj
      clear HB
      clear Xk
      have Xa := Xq
      have Xb := Xr
      have Xj := Xs
      have HB := Xt
      have Xl := Xv
      clear Xq Xr Xs Xt Xv
      clear ho hb hg hat
      refine hK.out _ _ ⟨(blk_cell Xa.out 0).trans rfl, (blk_cell Xa.out 1).trans rfl, (blk_cell Xa.out 2).trans rfl⟩ (fun hHeld => ?_)
      clear hK K
      refine norm_ (a' := ?_) ?_ ?_
      rotate_left
      · show Act.put _ (some 8) _ = _
        simp only [Act.put, List.setIfInBounds_toArray, List.set_cons_zero, List.set_cons_succ, i64_w, i32_w]
        rfl
      exact norm_ (by simp only [putAll, Act.put, List.setIfInBounds_toArray, List.set_cons_zero, List.set_cons_succ]) (hCont (v488, v491, v494) _ ⟨hHeld, (by (with_reducible repeat apply upG); exact Xl.out), (by (with_reducible repeat apply upG); exact Kd.R_mono Xj.out (fun _ hk => hk.2)), (by exact upB Xa.out), (by exact upB Xb.out), (by repeat (first | (with_reducible first | exact HB.out | apply upS | refine below_set ?_ Xf.out | refine below_set ?_ Xi.out) | exact HB.out))⟩)
    skip
    refine Kd.R_lit_step (Kd.int .i64) _ 3 ?hg (N := 9) ?hd (xs := ([] : List Int)) (inner := []) (ok := fun _ => True) (okp := fun _ => True) ?hr ?hp (fun _ hk => hk) trivial (Below.refl _ _) (Nat.le_refl _) (by simp) ?_; (case hd => rfl); (case hg => rfl); (case hr => first | (go_simp; done) | (go_simp; rfl)); (case hp => exact (Reps.none _ _))
    intro v494 w7 ho8 hb hg_ hnew_
    clear hg_ hnew_
    (first | rw [← Ny493.out] at ho8 | (simp only [Int.reduceToNat] at ho8; rw [← Ny493.out] at ho8))
    have Xq := Aside0.mk (Kd.R_lower ho8 (below_size (by repeat (first | (with_reducible first | exact HB.out | apply upS | refine below_set ?_ Xf.out | refine below_set ?_ Xi.out) | exact HB.out))))
    have Xr := Aside0.mk (blk_below (g := Xe) (o := .cells #[.int .i64 a0_0, .slice Xm Xh.length Xn, .slice Xo Xg.length Xp] 31 (0, 0)) (by exact upB Xa.out) hb)
    have Xs := Aside0.mk (blk_below (g := Xc) (o := .cells #[.int .i64 0, .slice none 0 0, .slice none 0 0] 31 (0, 0)) (by exact upB Xb.out) hb)
    have Xt := Aside0.mk (below_step (by repeat (first | (with_reducible first | exact HB.out | apply upS | refine below_set ?_ Xf.out | refine below_set ?_ Xi.out) | exact HB.out)) hb)
    clear Xa
    clear Xb
    clear HB
    have Xj := Xq
    have Xa := Xr
    have Xb := Xs
    have HB := Xt
    clear Xq Xr Xs Xt
    clear hb ho8
    refine hK.out _ _ ⟨(blk_cell Xa.out 0).trans rfl, (blk_cell Xa.out 1).trans rfl, (blk_cell Xa.out 2).trans rfl⟩ (fun hHeld => ?_)
    clear hK K
    refine norm_ (a' := ?_) ?_ ?_
    rotate_left
    · show Act.put _ (some 9) _ = _
      simp only [Act.put, List.setIfInBounds_toArray, List.set_cons_zero, List.set_cons_succ, i64_w, i32_w]
      rfl
    refine one_ (i := 2) (N := some 5) #[true, true, true, true, true, false, true, true, true, false, false, false] rfl rfl (one_of HT_.out (by kernel_rfl)) (by decide) (fun K hK => ?_)
    refine Kd.R_lit_step (Kd.int .i64) _ 3 ?hg (N := 5) ?hd (xs := ([] : List Int)) (inner := []) (ok := fun _ => True) (okp := fun _ => True) ?hr ?hp (fun _ hk => hk) trivial (Below.refl _ _) (Nat.le_refl _) (by simp) ?_; (case hd => rfl); (case hg => rfl); (case hr => first | (go_simp; done) | (go_simp; rfl)); (case hp => exact (Reps.none _ _))
    intro v488 w9 ho10 hb hg_ hnew_
    clear hg_ hnew_
    (first | rw [← Ny487.out] at ho10 | (simp only [Int.reduceToNat] at ho10; rw [← Ny487.out] at ho10))
    have Xq := Aside0.mk (Kd.R_elder' (by (with_reducible repeat apply upG); exact Xj.out) (Kd.R_base ho10) hb)
    have Xr := Aside0.mk (Kd.R_lower (Kd.R_new' ho10 (Kd.R_lt (by (with_reducible repeat apply upG); exact Xj.out))) (below_size (by repeat (first | (with_reducible first | exact HB.out | apply upS | refine below_set ?_ Xf.out | refine below_set ?_ Xi.out) | exact HB.out))))
    have Xs := Aside0.mk (blk_below (g := Xe) (o := .cells #[.int .i64 a0_0, .slice Xm Xh.length Xn, .slice Xo Xg.length Xp] 31 (0, 0)) (by exact upB Xa.out) hb)
    have Xt := Aside0.mk (blk_below (g := Xc) (o := .cells #[.int .i64 0, .slice none 0 0, .slice none 0 0] 31 (0, 0)) (by exact upB Xb.out) hb)
    have Xv := Aside0.mk (below_step (by repeat (first | (with_reducible first | exact HB.out | apply upS | refine below_set ?_ Xf.out | refine below_set ?_ Xi.out) | exact HB.out)) hb)
    clear Xj
    clear Xa
    clear Xb
    clear HB
    have Xj := Xq
    have Xk := Xr
    have Xa := Xs
    have Xb := Xt
    have HB := Xv
    clear Xq Xr Xs Xt Xv
    clear hb ho10
    refine hK.out _ _ ⟨(blk_cell Xa.out 0).trans rfl, (blk_cell Xa.out 1).trans rfl, (blk_cell Xa.out 2).trans rfl⟩ (fun hHeld => ?_)
    clear hK K
    refine norm_ (a' := ?_) ?_ ?_
    rotate_left
    · show Act.put _ (some 5) _ = _
      simp only [Act.put, List.setIfInBounds_toArray, List.set_cons_zero, List.set_cons_succ, i64_w, i32_w]
      rfl
    refine one_ (i := 5) (N := some 8) #[true, true, true, true, true, true, true, true, true, false, false, false] rfl rfl (one_of HT_.out (by kernel_rfl)) (by decide) (fun K hK => ?_)
    refine Kd.R_append_rows_step (Kd.int .i64) (w0 := w) w.heap.size (by rfl) (.tmp 5) (.tmp 7) 29 3 (.int .i64 0) 8 rfl Try.underlying29 info3 rfl (by decide) (by omega) v488 y487 Xh _ _ _ (fun k_ => some k_ ≠ (v494 : Value).ownBlock) (fun _ => False) rfl rfl ?aO ?aR (fun _ _ h => h) (fun _ h => h.elim) ?aF ?aB ?aS ?aL ?_
    (case aR => repeat (first | exact (Kd.C_below Xx.out HB.out) | (with_reducible refine Kd.C_alloc ?_ _) | (with_reducible refine Kd.C_drewN ?_ _) | (with_reducible refine Kd.C_drew ?_)))
    (case aB => exact (by repeat (first | (with_reducible first | exact HB.out | apply upS | refine below_set ?_ Xf.out | refine below_set ?_ Xi.out) | exact HB.out)))
    (case aF => exact (fun k_ hk => Kd.fresh' (Kd.R_lt (by (with_reducible repeat apply upG); exact Xj.out)) k_ hk))
    (case aO => exact (by (with_reducible repeat apply upG); exact Kd.R_mono Xk.out (fun _ hk => hk.2)))
    (case aS => exact (below_size (by repeat (first | (with_reducible first | exact HB.out | apply upS | refine below_set ?_ Xf.out | refine below_set ?_ Xi.out) | exact HB.out))))
    (case aL => have := LMc2.out; omega)
    intro v491 w11 ho hb hg hat
    rw [← Ny490.out] at ho
    have Xq := Aside0.mk (blk_grown (g := Xe) (o := .cells #[.int .i64 a0_0, .slice Xm Xh.length Xn, .slice Xo Xg.length Xp] 31 (0, 0)) (by exact upB Xa.out) hg (Kd.R_ne Xk.out Xa.out (by decide)))
    have Xr := Aside0.mk (blk_grown (g := Xc) (o := .cells #[.int .i64 0, .slice none 0 0, .slice none 0 0] 31 (0, 0)) (by exact upB Xb.out) hg (Kd.R_ne Xk.out Xb.out (by decide)))
    have Xs := Aside0.mk (Kd.R_after (ok := (fun _ => True)) (by (with_reducible repeat apply upG); exact Xj.out) hg hat)
    have Xt := Aside0.mk (hb)
    have Xv := Aside0.mk (ho)
    clear Xa
    clear Xb
    clear Xj
    clear HB
    clear Xk
    have Xa := Xq
    have Xb := Xr
    have Xj := Xs
    have HB := Xt
    have Xl := Xv
    clear Xq Xr Xs Xt Xv
    clear ho hb hg hat
    refine hK.out _ _ ⟨(blk_cell Xa.out 0).trans rfl, (blk_cell Xa.out 1).trans rfl, (blk_cell Xa.out 2).trans rfl⟩ (fun hHeld => ?_)
    clear hK K
    refine norm_ (a' := ?_) ?_ ?_
    rotate_left
    · show Act.put _ (some 8) _ = _
      simp only [Act.put, List.setIfInBounds_toArray, List.set_cons_zero, List.set_cons_succ, i64_w, i32_w]
      rfl
    exact norm_ (by simp only [putAll, Act.put, List.setIfInBounds_toArray, List.set_cons_zero, List.set_cons_succ]) (hCont (v488, v491, v494) _ ⟨hHeld, (by (with_reducible repeat apply upG); exact Xl.out), (by (with_reducible repeat apply upG); exact Kd.R_mono Xj.out (fun _ hk => hk.2)), (by exact upB Xa.out), (by exact upB Xb.out), (by repeat (first | (with_reducible first | exact HB.out | apply upS | refine below_set ?_ Xf.out | refine below_set ?_ Xi.out) | exact HB.out))⟩)
  rintro ⟨v488, v491, v494⟩ w12 ⟨hS_, h0_, h1_, h2_, h3_, h4_⟩
  have Xq : Aside0 (Kd.R (Kd.int .i64) 3 w12 w.heap.size (fun k_ => some k_ ≠ (v494 : Value).ownBlock) v491 y490) := ⟨h0_⟩
  have Xr : Aside0 (Kd.R (Kd.int .i64) 3 w12 w.heap.size (fun k_ => some k_ ≠ (v491 : Value).ownBlock) v494 y493) := ⟨h1_⟩
  have Xs : Aside0 (w12.heap[Xe]? = some (.cells #[.int .i64 a0_0, .slice Xm Xh.length Xn, .slice Xo Xg.length Xp] 31 (0, 0))) := ⟨h2_⟩
  have Xt : Aside0 (w12.heap[Xc]? = some (.cells #[.int .i64 0, .slice none 0 0, .slice none 0 0] 31 (0, 0))) := ⟨h3_⟩
  have Xv : Aside0 (Below w.heap.size w w12) := ⟨h4_⟩
  clear Xa
  clear Xb
  clear HB
  clear h0_ h1_ h2_ h3_ h4_
  have Xl := Xq
  have Xj := Xr
  have Xa := Xs
  have Xb := Xt
  have HB := Xv
  clear Xq Xr Xs Xt Xv
  have hHeld : w12.cell? ⟨Xe, 0, none⟩ = some (.int .i64 a0_0) ∧ w12.cell? ⟨Xe, 1, none⟩ = some (.slice Xm Xh.length Xn) ∧ w12.cell? ⟨Xe, 2, none⟩ = some (.slice Xo Xg.length Xp) := hS_
  refine norm_ (a' := ?_) ?_ ?_
  rotate_left
  · simp only [putAll, Act.put, List.setIfInBounds_toArray, List.set_cons_zero, List.set_cons_succ]
    rfl
  refine one_ (i := 9) (N := some 12) #[true, true, true, true, true, true, true, true, true, true, false, false] rfl rfl (one_of HT_.out (by kernel_rfl)) (by decide) (fun K hK => ?_)
  refine Kd.R_append_rows_step (Kd.int .i64) (w0 := w) w.heap.size (by rfl) (.tmp 9) (.tmp 11) 29 3 (.int .i64 0) 8 rfl Try.underlying29 info3 rfl (by decide) (by omega) v494 y493 Xg _ _ _ (fun k_ => some k_ ≠ (v491 : Value).ownBlock) (fun _ => False) rfl rfl ?aO ?aR (fun _ _ h => h) (fun _ h => h.elim) ?aF ?aB ?aS ?aL ?_
  (case aR => repeat (first | exact (Kd.C_below XD.out HB.out) | (with_reducible refine Kd.C_alloc ?_ _) | (with_reducible refine Kd.C_drewN ?_ _) | (with_reducible refine Kd.C_drew ?_)))
  (case aB => exact (by repeat (first | (with_reducible first | exact HB.out | apply upS | refine below_set ?_ Xf.out | refine below_set ?_ Xi.out) | exact HB.out)))
  (case aF => exact (fun k_ hk => Kd.fresh' (Kd.R_lt (by (with_reducible repeat apply upG); exact Xl.out)) k_ hk))
  (case aO => exact (by (with_reducible repeat apply upG); exact Xj.out))
  (case aS => exact (below_size (by repeat (first | (with_reducible first | exact HB.out | apply upS | refine below_set ?_ Xf.out | refine below_set ?_ Xi.out) | exact HB.out))))
  (case aL => have := LMc3.out; omega)
  intro v497 w13 ho hb hg hat
  rw [← Ny496.out] at ho
  have Xq := Aside0.mk (blk_grown (g := Xe) (o := .cells #[.int .i64 a0_0, .slice Xm Xh.length Xn, .slice Xo Xg.length Xp] 31 (0, 0)) (by exact upB Xa.out) hg (Kd.R_ne Xj.out Xa.out (by decide)))
  have Xr := Aside0.mk (blk_grown (g := Xc) (o := .cells #[.int .i64 0, .slice none 0 0, .slice none 0 0] 31 (0, 0)) (by exact upB Xb.out) hg (Kd.R_ne Xj.out Xb.out (by decide)))
  have Xs := Aside0.mk (Kd.R_after (ok := (fun _ => True)) (by (with_reducible repeat apply upG); exact Kd.R_mono Xl.out (fun _ hk => ⟨trivial, hk⟩)) hg hat)
  have Xt := Aside0.mk (hb)
  have Xv := Aside0.mk (ho)
  clear Xa
  clear Xb
  clear Xl
  clear HB
  clear Xj
  have Xa := Xq
  have Xb := Xr
  have Xl := Xs
  have HB := Xt
  have XA := Xv
  clear Xq Xr Xs Xt Xv
  clear ho hb hg hat
  obtain ⟨XB, XC, eo14⟩ := Kd.R_slice XA.out
  (first | subst eo14 | (injection eo14 with f1_ f2_ f3_; have f4_ := f1_.symm; have f5_ := f3_.symm; clear f1_ f2_ f3_; subst f4_; subst f5_))
  obtain ⟨Xy, Xz, eo15⟩ := Kd.R_slice Xl.out
  (first | subst eo15 | (injection eo15 with f1_ f2_ f3_; have f4_ := f1_.symm; have f5_ := f3_.symm; clear f1_ f2_ f3_; subst f4_; subst f5_))
  refine hK.out _ _ ⟨(blk_cell Xa.out 0).trans rfl, (blk_cell Xa.out 1).trans rfl, (blk_cell Xa.out 2).trans rfl⟩ (fun hHeld => ?_)
  clear hK K
  refine norm_ (a' := ?_) ?_ ?_
  rotate_left
  · show Act.put _ (some 12) _ = _
    simp only [Act.put, List.setIfInBounds_toArray, List.set_cons_zero, List.set_cons_succ, i64_w, i32_w]
    rfl
  refine pure_ (i := 10) (N := some 13) (v := ?_) (a' := ?_) #[true, true, true, true, true, true, true, true, true, true, true, false] rfl rfl (any_of HT_.out (by kernel_rfl)) (fun _ _ _ h => h) (Or.inl ⟨by rfl, ?_⟩) ?_ ?_
  rotate_left
  · intro w'; go_simp; with_reducible rfl
  rotate_left
  · simp only [Act.put, List.setIfInBounds_toArray, List.set_cons_zero, List.set_cons_succ, i64_w, i32_w]; rfl
  refine one_ (i := 11) (N := none) #[true, true, true, true, true, true, true, true, true, true, true, true] rfl rfl (one_of HT_.out (by kernel_rfl)) (by decide) (fun K hK => ?_)
  have hs16 : w13.cell? ⟨Xc, 0, none⟩ = some (.int .i64 0) := (blk_cell Xb.out 0).trans rfl
  have hfs16 := blk_frozen Xb.out 0
  have hns16_0 := Xd.out
  have hms16_0 := Xu.out
  have hs17 : w13.cell? ⟨Xc, 1, none⟩ = some (.slice none 0 0) := (blk_cell Xb.out 1).trans rfl
  have hfs17 := blk_frozen Xb.out 1
  have hns17_0 := Xd.out
  have hms17_0 := Xu.out
  have hs18 : w13.cell? ⟨Xc, 2, none⟩ = some (.slice none 0 0) := (blk_cell Xb.out 2).trans rfl
  have hfs18 := blk_frozen Xb.out 2
  have hns18_0 := Xd.out
  have hms18_0 := Xu.out
  refine skip_ (w1 := ?_) (by rfl) rfl ?_ ?_
  rotate_left
  · go_simp
    rfl
  refine hK.out _ _ ⟨((cell_far (p := ⟨Xc, _, none⟩) Xd.out _).trans (((cell_far (p := ⟨Xc, _, none⟩) Xd.out _).trans (((cell_far (p := ⟨Xc, _, none⟩) Xd.out _).trans (hHeld.1)))))), ((cell_far (p := ⟨Xc, _, none⟩) Xd.out _).trans (((cell_far (p := ⟨Xc, _, none⟩) Xd.out _).trans (((cell_far (p := ⟨Xc, _, none⟩) Xd.out _).trans (hHeld.2.1)))))), ((cell_far (p := ⟨Xc, _, none⟩) Xd.out _).trans (((cell_far (p := ⟨Xc, _, none⟩) Xd.out _).trans (((cell_far (p := ⟨Xc, _, none⟩) Xd.out _).trans (hHeld.2.2))))))⟩ (fun hHeld => ?_)
  clear hK K
  refine done_ (done_of HT_.out (by kernel_rfl)) ?_
  try go_wp2
  refine bodyPost_ret (results_cell_row rfl _ _ Xc 31 #[.int .i64 a0_0, .slice Xy y490.length Xz, .slice XB y496.length XC] (0, 0) _ rfl (by (with_reducible repeat apply upF); refine blk_put (cs := #[.int .i64 a0_0, .slice Xy y490.length Xz, .slice none 0 0]) ?_ 2 _ rfl; (with_reducible repeat apply upF); refine blk_put (cs := #[.int .i64 a0_0, .slice none 0 0, .slice none 0 0]) ?_ 1 _ rfl; (with_reducible repeat apply upF); refine blk_put (cs := #[.int .i64 0, .slice none 0 0, .slice none 0 0]) ?_ 0 _ rfl; exact upB Xb.out) Try.underlying31 rfl (by kernel_rfl)) rfl ?_
  exact ⟨_, _, by first | rfl | (simp [errW_none, errW_some] <;> rfl) | (simp [*, errW_none, errW_some] <;> rfl), by (with_reducible repeat apply upG); exact Kd.R_mono (Kd.R_far (p := ⟨Xc, 2, none⟩) (Kd.R_far (p := ⟨Xc, 1, none⟩) (Kd.R_far (p := ⟨Xc, 0, none⟩) (Kd.R_types Xl.out Xb.out (by decide)) (fun _ hk => hk.2) (.int .i64 a0_0)) (fun _ hk => hk.2) (.slice Xy y490.length Xz)) (fun _ hk => hk.2) (.slice XB y496.length XC)) (fun _ hk => hk.1.2), by (with_reducible repeat apply upG); exact Kd.R_mono (Kd.R_far (p := ⟨Xc, 2, none⟩) (Kd.R_far (p := ⟨Xc, 1, none⟩) (Kd.R_far (p := ⟨Xc, 0, none⟩) (Kd.R_types XA.out Xb.out (by decide)) (fun _ hk => hk.2) (.int .i64 a0_0)) (fun _ hk => hk.2) (.slice Xy y490.length Xz)) (fun _ hk => hk.2) (.slice XB y496.length XC)) (fun _ hk => hk.1), by repeat (first | (with_reducible first | exact HB.out | apply upS | refine below_set ?_ Xf.out | refine below_set ?_ Xi.out) | exact HB.out)⟩

end Go.Proofs.Yticjlkommabcjaa.PS
