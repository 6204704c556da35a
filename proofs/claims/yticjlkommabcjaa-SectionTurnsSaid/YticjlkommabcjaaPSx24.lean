-- Printed by wip/qprint.py of this repository, over the kit's print, out of the translation. Not trusted: Lean checks it.
import Derived.Test.YticjlkommabcjaaPSx0
import Derived.Test.YticjlkommabcjaaPSx3
import Derived.Test.YticjlkommabcjaaPSx5
import Derived.Test.YticjlkommabcjaaPSx12
import Derived.Test.YticjlkommabcjaaPSx13
import Derived.Test.YticjlkommabcjaaUp
namespace Go.Proofs.Yticjlkommabcjaa.PS
open Go.RowKit Go.Proofs.YticjlkommabcjaaW.PrintWords Go.Proofs.YticjlkommabcjaaW.PrintLast Go.Proofs.YticjlkommabcjaaW.PrintMore
attribute [local go_sem] max2_int min2_int max_two min_two max_three min_three max_four min_four   -- for this text's walks alone
set_option linter.unusedVariables false
set_option linter.unusedSimpArgs false
set_option maxRecDepth 100000

/-! ### section_Places: function 25 -/
section
open Go.Proofs.Yticjlkommabcjaa.Keep

def plcRow (row : List Int) (s k : Int) : List Int := row.map fun x => wrap64 (x + wrap64 (k * s))
def plcUpto (row : List Int) (s : Int) (k : Nat) : List Int := row ++ (List.range k).flatMap fun j : Nat => plcRow row s ((j : Int) + 1)
def plcs : List Int → List Int → List Int → List Int
  | n :: E, s :: S, out => plcs E S (plcUpto out s (n.toNat - 1))
  | _, _, out => out
theorem plcUpto_zero (row : List Int) (s : Int) : plcUpto row s 0 = row := by simp [plcUpto]
theorem plcUpto_succ (row : List Int) (s : Int) (k : Nat) : plcUpto row s (k + 1) = plcUpto row s k ++ plcRow row s ((k : Int) + 1) := by
  simp [plcUpto, List.range_succ, List.flatMap_append]
theorem plcUpto_length (row : List Int) (s : Int) (k : Nat) : row.length ≤ (plcUpto row s k).length := by simp [plcUpto]
theorem plcUpto_mono (row : List Int) (s : Int) (k : Nat) : ∀ m, k ≤ m → (plcUpto row s k).length ≤ (plcUpto row s m).length := by
  intro m hm
  induction hm with
  | refl => exact Nat.le_refl _
  | step _ ih => rw [plcUpto_succ, List.length_append]; omega
theorem plcs_length : ∀ (E S out : List Int), out.length ≤ (plcs E S out).length
  | n :: E, s :: S, out => Nat.le_trans (plcUpto_length out s (n.toNat - 1)) (plcs_length E S _)
  | [], _, out => by simp [plcs]
  | _ :: _, [], out => by simp [plcs]
theorem plcs_drop (E S : List Int) (i : Nat) (out : List Int) (hi : i < E.length) (hS : S.length = E.length) : plcs (E.drop i) (S.drop i) out = plcs (E.drop (i + 1)) (S.drop (i + 1)) (plcUpto out (rd S i) ((rd E i).toNat - 1)) := by
  have e1 : E.drop i = rd E i :: E.drop (i + 1) := by
    rw [List.drop_eq_getElem_cons hi]
    congr 1
    simp [rd, List.getD_eq_getElem?_getD, List.getElem?_eq_getElem hi]
  have e2 : S.drop i = rd S i :: S.drop (i + 1) := by
    rw [List.drop_eq_getElem_cons (by omega)]
    congr 1
    simp [rd, List.getD_eq_getElem?_getD, List.getElem?_eq_getElem (show i < S.length by omega)]
  rw [e1, e2]
  rfl

def section_Places.f (k : Nat) (a0_0 : Int) (Xa : List Int) (Xb : List Int) : Option (List Int × Int) :=
  (section_Valid.f k a0_0 Xa Xb).bind fun v => if v = true then ((section_size.f k Xa).bind fun n => if n = 0 then some ([], 0) else
    (if Xb.length = Xa.length ∧ (Xa.all fun x => decide (x ≤ 4000)) = true ∧ (plcs Xa Xb [a0_0]).length < 17592186044416 then some (plcs Xa Xb [a0_0], 0) else none)) else some ([], 2)
theorem section_Places.mono (a0 : Int) (a1 a2 : List Int) (k : Nat) : LeO (section_Places.f k a0 a1 a2) (section_Places.f (k + 1) a0 a1 a2) := by
  unfold section_Places.f
  refine LeO.bind (section_Valid.mono _ _ _ _) (fun _ => LeO.ite (LeO.bind (section_size.mono _ _) (fun _ => LeO.refl _)) (LeO.refl _))

theorem plc_room {E S out r : List Int} {i kk j : Nat} (hi : i < E.length) (hS : S.length = E.length) (hp : plcs (E.drop i) (S.drop i) out = r) (hk : kk < (rd E i).toNat - 1) (hj : j < out.length) : (plcUpto out (rd S i) kk ++ plcRow (out.take j) (rd S i) ((kk : Int) + 1)).length + 1 ≤ r.length := by
  rw [plcs_drop _ _ _ _ hi hS] at hp
  have h1 := plcs_length (E.drop (i + 1)) (S.drop (i + 1)) (plcUpto out (rd S i) ((rd E i).toNat - 1))
  rw [hp] at h1
  have h2 := plcUpto_mono out (rd S i) (kk + 1) ((rd E i).toNat - 1) (by omega)
  rw [plcUpto_succ] at h2
  simp only [List.length_append, plcRow, List.length_map, List.length_take] at h2 ⊢
  omega
theorem plcRow_snoc (out : List Int) (s k : Int) (j : Nat) (hj : j < out.length) : plcRow (out.take (j + 1)) s k = plcRow (out.take j) s k ++ [wrap64 (rd out (j : Int) + wrap64 (k * s))] := by
  unfold plcRow
  rw [List.take_succ_eq_append_getElem hj, List.map_append]
  simp [rd, List.getD_eq_getElem?_getD, List.getElem?_eq_getElem hj]

/-- The list that out holds. -/
def Own (W : World) (base : Nat) (v : Value) (xs : List Int) : Prop := W.ownsRow base 3 1 v xs.length (nums .i64 xs)
theorem Own.snoc {W : World} {base : Nat} {v : Value} {xs : List Int} {y : Int} (h : W.ownsRow base 3 1 v (xs.length + 1) (nums .i64 xs ++ [.int .i64 y])) : Own W base v (xs ++ [y]) := by
  unfold Own
  rw [nums_append, List.length_append]
  exact h
theorem Own.slice {W : World} {base : Nat} {v : Value} {xs : List Int} (h : Own W base v xs) (hx : 0 < xs.length) : ∃ g c, v = .slice (some ⟨g, 0, none⟩) xs.length c ∧ base ≤ g ∧ g < W.heap.size := World.ownsRow.form h hx
theorem Own.R {W : World} {base : Nat} {v : Value} {xs : List Int} (h : Own W base v xs) : Kd.R (Kd.int .i64) 3 W base (fun _ => True) v xs := Kd.R_of_own h (fun _ _ => trivial)
theorem Own.ofR {W : World} {base : Nat} {ok : Nat → Prop} {v : Value} {xs : List Int} (h : Kd.R (Kd.int .i64) 3 W base ok v xs) : Own W base v xs := Kd.own_of_R h
theorem box_keep {W W1 : World} {base : Nat} {v : Value} {xs : List Int} {gb : Nat} {cs : Array Value} {o : Obj} (ho : Own W base v xs) (hb : W.heap[gb]? = some (.cells cs 31 (0, 0))) (hg : (W.alloc o).grownBy W1 v.ownBlock) : W1.heap[gb]? = some (.cells cs 31 (0, 0)) :=
  blk_grown (blk_alloc hb _) hg (Kd.R_ne (Own.R (World.ownsRow.alloc ho o)) (blk_alloc hb o) (by decide))
theorem below_app {w W W1 : World} {v : Value} {xs : List Int} {o : Obj} (ho : Own W w.heap.size v xs) (hb : Below w.heap.size w W) (hg : (W.alloc o).grownBy W1 v.ownBlock) : Below w.heap.size w W1 :=
  pw_below_grown (below_alloc hb o) _ (below_size (below_alloc hb o)) hg (fun k e => own_base (World.ownsRow.alloc ho o) k e)
theorem rd_nat (l : List Int) (j : Nat) (hj : j < l.length) : l[j]? = some (rd l j) := by
  simp [rd, List.getD_eq_getElem?_getD, List.getElem?_eq_getElem hj]

set_option maxHeartbeats 8000000 in
theorem section_Places.calls (k : Nat) (a0_0 : Int) (Xd : Option Addr) (Xc : Nat) (Xa : List Int) (Xg : Option Addr) (Xe : Nat) (Xb : List Int) (r1 : List Int) (r2 : Int) (w : World) (hr0_1 : Kd.C (Kd.int .i64) w Xd Xa.length Xa) (hc0_1 : Xa.length ≤ Xc) (hr0_2 : Kd.C (Kd.int .i64) w Xg Xb.length Xb) (hc0_2 : Xb.length ≤ Xe) (h : section_Places.f k a0_0 Xa Xb = some (r1, r2)) :
    Calls Try.prog 25 #[.agg #[.int .i64 a0_0, .slice Xd Xa.length Xc, .slice Xg Xb.length Xe]] w fun e w' => ∃ v0_ : Value, e = .returned (.tuple #[v0_, .int .i64 r2]) ∧ Kd.R (Kd.int .i64) 3 w' w.heap.size (fun _ => True) v0_ r1 ∧ Below w.heap.size w w' := by
  have hu31 := Try.underlying31
  have hm1 : Xa.length ≤ 9223372036854775807 := hr0_1.2.1
  have Xk := Aside0.mk hr0_1
  have Xl := Aside0.mk hc0_1
  have Xm := Aside0.mk hr0_2
  have Xn := Aside0.mk hc0_2
  clear hr0_1 hc0_1 hr0_2 hc0_2
  have HB := Aside0.mk (Below.refl w.heap.size w)
  unfold section_Places.f at h
  replace h := Option.bind_eq_some_iff.mp h
  obtain ⟨v, hv, h⟩ := h
  have HV := Aside0.mk hv
  clear hv
  cases v with
  | false =>
    simp only [if_neg (show ¬ (false = true) by decide), Option.some.injEq, Prod.mk.injEq] at h
    obtain ⟨rfl, rfl⟩ := h
    go_enter Try.func25, Try.ntmps25
    go_wp2_with (first | ((with_reducible refine gate_dst (N := 1) rfl ?_); refine box_event ?hg (N := 1) ?hd (cs := #[.int .i64 a0_0, .slice Xd Xa.length Xc, .slice Xg Xb.length Xe]) (t := 31) ?hr ?_; (case hd => rfl); (case hg => rfl); (case hr => first | (go_simp; done) | (go_simp; rfl)); intro gb hg w1 hbox hb; have BK := Aside0.mk hbox; have HB1 := Aside0.mk (below_step HB.out hb); have GN := Aside0.mk hg; clear HB; clear hb hbox hg; have z0 : w1.cell? ⟨gb, 0, none⟩ = some (.int .i64 a0_0) := (blk_cell BK.out 0).trans rfl; have z1 : w1.cell? ⟨gb, 1, none⟩ = some (.slice Xd Xa.length Xc) := (blk_cell BK.out 1).trans rfl; have z2 : w1.cell? ⟨gb, 2, none⟩ = some (.slice Xg Xb.length Xe) := (blk_cell BK.out 2).trans rfl) | ((with_reducible refine gate_callee (f := 23) rfl ?_); refine goesL_ (some 12) rfl rfl Try.func23 (by kernel_rfl) rfl #[.agg #[.int .i64 a0_0, .slice Xd Xa.length Xc, .slice Xg Xb.length Xe]] rfl (by (try simp only [List.map_toArray, List.map_cons, List.map_nil]); first | done | rfl) ?_; (with_reducible refine (section_Valid.calls k a0_0 _ _ Xa _ _ Xb false _ ?s1 ?s2 ?s3 ?s4 HV.out).mono ?_); (case s1 => exact Kd.C_below Xk.out HB1.out); (case s2 => exact Xl.out); (case s3 => exact Kd.C_below Xm.out HB1.out); (case s4 => exact Xn.out); rintro e w2 ⟨rfl, hb⟩; refine ⟨_, rfl, ?_⟩; have HB2 := Aside0.mk (below_step HB1.out hb); have Xx := Aside0.mk (blk_below BK.out hb); clear hb z0 z1 z2; have z0 : w2.cell? ⟨gb, 0, none⟩ = some (.int .i64 a0_0) := (blk_cell Xx.out 0).trans rfl; have z1 : w2.cell? ⟨gb, 1, none⟩ = some (.slice Xd Xa.length Xc) := (blk_cell Xx.out 1).trans rfl; have z2 : w2.cell? ⟨gb, 2, none⟩ = some (.slice Xg Xb.length Xe) := (blk_cell Xx.out 2).trans rfl))
    go_ret2
    exact ⟨_, rfl, Kd.R_nil _ _ _ _ _, HB2.out⟩
  | true =>
    rw [if_pos rfl] at h
    replace h := Option.bind_eq_some_iff.mp h
    obtain ⟨n, hn, h⟩ := h
    have HS := Aside0.mk hn
    clear hn
    by_cases h0 : n = 0
    · rw [if_pos h0] at h
      subst h0
      simp only [Option.some.injEq, Prod.mk.injEq] at h
      obtain ⟨rfl, rfl⟩ := h
      go_enter Try.func25, Try.ntmps25
      go_wp2_with (first | ((with_reducible refine gate_dst (N := 1) rfl ?_); refine box_event ?hg (N := 1) ?hd (cs := #[.int .i64 a0_0, .slice Xd Xa.length Xc, .slice Xg Xb.length Xe]) (t := 31) ?hr ?_; (case hd => rfl); (case hg => rfl); (case hr => first | (go_simp; done) | (go_simp; rfl)); intro gb hg w1 hbox hb; have BK := Aside0.mk hbox; have HB1 := Aside0.mk (below_step HB.out hb); have GN := Aside0.mk hg; clear HB; clear hb hbox hg; have z0 : w1.cell? ⟨gb, 0, none⟩ = some (.int .i64 a0_0) := (blk_cell BK.out 0).trans rfl; have z1 : w1.cell? ⟨gb, 1, none⟩ = some (.slice Xd Xa.length Xc) := (blk_cell BK.out 1).trans rfl; have z2 : w1.cell? ⟨gb, 2, none⟩ = some (.slice Xg Xb.length Xe) := (blk_cell BK.out 2).trans rfl) | ((with_reducible refine gate_callee (f := 23) rfl ?_); refine goesL_ (some 12) rfl rfl Try.func23 (by kernel_rfl) rfl #[.agg #[.int .i64 a0_0, .slice Xd Xa.length Xc, .slice Xg Xb.length Xe]] rfl (by (try simp only [List.map_toArray, List.map_cons, List.map_nil]); first | done | rfl) ?_; (with_reducible refine (section_Valid.calls k a0_0 _ _ Xa _ _ Xb true _ ?s1 ?s2 ?s3 ?s4 HV.out).mono ?_); (case s1 => exact Kd.C_below Xk.out HB1.out); (case s2 => exact Xl.out); (case s3 => exact Kd.C_below Xm.out HB1.out); (case s4 => exact Xn.out); rintro e w2 ⟨rfl, hb⟩; refine ⟨_, rfl, ?_⟩; have HB2 := Aside0.mk (below_step HB1.out hb); have Xx := Aside0.mk (blk_below BK.out hb); clear hb z0 z1 z2; have z0 : w2.cell? ⟨gb, 0, none⟩ = some (.int .i64 a0_0) := (blk_cell Xx.out 0).trans rfl; have z1 : w2.cell? ⟨gb, 1, none⟩ = some (.slice Xd Xa.length Xc) := (blk_cell Xx.out 1).trans rfl; have z2 : w2.cell? ⟨gb, 2, none⟩ = some (.slice Xg Xb.length Xe) := (blk_cell Xx.out 2).trans rfl) | ((with_reducible refine gate_callee (f := 46) rfl ?_); refine goesL_ (some 16) rfl rfl Try.func46 (by kernel_rfl) rfl #[.slice Xd Xa.length Xc] rfl (by (try simp only [List.map_toArray, List.map_cons, List.map_nil]); first | done | rfl) ?_; (with_reducible refine (section_size.calls k _ _ Xa 0 _ ?s1 ?s2 HS.out).mono ?_); (case s1 => exact Kd.C_below Xk.out HB2.out); (case s2 => exact Xl.out); rintro e w' ⟨rfl, ⟨nd, rfl⟩⟩; refine ⟨_, rfl, ?_⟩))
      go_ret2
      exact ⟨_, rfl, Kd.R_nil _ _ _ _ _, pw_below_drewN HB2.out _⟩
    · rw [if_neg h0] at h
      have Yb : (n == 0) = false := beq_eq_false_iff_ne.mpr h0
      have Yc : (n != 0) = true := bne_iff_ne.mpr h0
      by_cases hc : Xb.length = Xa.length ∧ (Xa.all fun x => decide (x ≤ 4000)) = true ∧ (plcs Xa Xb [a0_0]).length < 17592186044416
      · rw [if_pos hc] at h
        simp only [Option.some.injEq, Prod.mk.injEq] at h
        obtain ⟨hr, rfl⟩ := h
        have HL := Aside0.mk hc.1
        have HF := Aside0.mk hr
        have HLim : Aside0 (r1.length < 17592186044416) := ⟨by rw [← hr]; exact hc.2.2⟩
        have HE := Aside0.mk hc.2.1
        clear hc hr h0
        go_enter Try.func25, Try.ntmps25
        go_wp2_with (first | ((with_reducible refine gate_dst (N := 1) rfl ?_); refine box_event ?hg (N := 1) ?hd (cs := #[.int .i64 a0_0, .slice Xd Xa.length Xc, .slice Xg Xb.length Xe]) (t := 31) ?hr ?_; (case hd => rfl); (case hg => rfl); (case hr => first | (go_simp; done) | (go_simp; rfl)); intro gb hg w1 hbox hb; have BK := Aside0.mk hbox; have HB1 := Aside0.mk (below_step HB.out hb); have GN := Aside0.mk hg; clear HB; clear hb hbox hg; have z0 : w1.cell? ⟨gb, 0, none⟩ = some (.int .i64 a0_0) := (blk_cell BK.out 0).trans rfl; have z1 : w1.cell? ⟨gb, 1, none⟩ = some (.slice Xd Xa.length Xc) := (blk_cell BK.out 1).trans rfl; have z2 : w1.cell? ⟨gb, 2, none⟩ = some (.slice Xg Xb.length Xe) := (blk_cell BK.out 2).trans rfl) | ((with_reducible refine gate_callee (f := 23) rfl ?_); refine goesL_ (some 12) rfl rfl Try.func23 (by kernel_rfl) rfl #[.agg #[.int .i64 a0_0, .slice Xd Xa.length Xc, .slice Xg Xb.length Xe]] rfl (by (try simp only [List.map_toArray, List.map_cons, List.map_nil]); first | done | rfl) ?_; (with_reducible refine (section_Valid.calls k a0_0 _ _ Xa _ _ Xb true _ ?s1 ?s2 ?s3 ?s4 HV.out).mono ?_); (case s1 => exact Kd.C_below Xk.out HB1.out); (case s2 => exact Xl.out); (case s3 => exact Kd.C_below Xm.out HB1.out); (case s4 => exact Xn.out); rintro e w2 ⟨rfl, hb⟩; refine ⟨_, rfl, ?_⟩; have HB2 := Aside0.mk (below_step HB1.out hb); have Xx := Aside0.mk (blk_below BK.out hb); clear hb z0 z1 z2; have z0 : w2.cell? ⟨gb, 0, none⟩ = some (.int .i64 a0_0) := (blk_cell Xx.out 0).trans rfl; have z1 : w2.cell? ⟨gb, 1, none⟩ = some (.slice Xd Xa.length Xc) := (blk_cell Xx.out 1).trans rfl; have z2 : w2.cell? ⟨gb, 2, none⟩ = some (.slice Xg Xb.length Xe) := (blk_cell Xx.out 2).trans rfl) | ((with_reducible refine gate_callee (f := 46) rfl ?_); refine goesL_ (some 16) rfl rfl Try.func46 (by kernel_rfl) rfl #[.slice Xd Xa.length Xc] rfl (by (try simp only [List.map_toArray, List.map_cons, List.map_nil]); first | done | rfl) ?_; (with_reducible refine (section_size.calls k _ _ Xa n _ ?s1 ?s2 HS.out).mono ?_); (case s1 => exact Kd.C_below Xk.out HB2.out); (case s2 => exact Xl.out); rintro e w' ⟨rfl, ⟨nd, rfl⟩⟩; refine ⟨_, rfl, ?_⟩) | ((with_reducible refine gate_dst (N := 20) rfl ?_); refine Kd.R_lit (Kd.int .i64) _ 3 ?hg (N := 20) ?hd (xs := ([a0_0] : List Int)) (inner := [.int .i64 a0_0]) (ok := fun _ => True) (okp := fun _ => True) ?hr ?hp (fun _ hk => hk) trivial (Below.refl _ _) (Nat.le_refl _) (by simp) ?_; (case hd => rfl); (case hg => rfl); (case hr => first | (go_simp; done) | (go_simp; rfl)); (case hp => exact (Reps.one (show Kd.M (Kd.int .i64) _ _ _ a0_0 [.int .i64 a0_0] from rfl) (Reps.none _ _))); intro v20 w3 ho hb hg_ hnew_; clear hg_ hnew_; have HO := Aside0.mk (Own.ofR (Kd.R_lower ho (below_size (pw_below_drewN HB2.out _)))); have XL := Aside0.mk (blk_below (blk_drewN Xx.out _) hb); have HB3 := Aside0.mk (below_step (pw_below_drewN HB2.out _) hb); clear hb ho z0 z1 z2; have z0 : w3.cell? ⟨gb, 0, none⟩ = some (.int .i64 a0_0) := (blk_cell XL.out 0).trans rfl; have z1 : w3.cell? ⟨gb, 1, none⟩ = some (.slice Xd Xa.length Xc) := (blk_cell XL.out 1).trans rfl; have z2 : w3.cell? ⟨gb, 2, none⟩ = some (.slice Xg Xb.length Xe) := (blk_cell XL.out 2).trans rfl))
        obtain ⟨i0, hi, X7, X8, X9⟩ := info_parts info3
        clear z0 z1 z2
        have hst : plcs (Xa.drop 0) (Xb.drop 0) [a0_0] = r1 := HF.out
        have HST := Aside0.mk hst
        clear hst
        go_loopg [4, 24] Xa.length (fun gk v4 v24 wr => ∃ (out : List Int) (i : Nat), v24 = .int .i64 (i : Int) ∧ Aside0 (i + gk = Xa.length) ∧ Aside0 (plcs (Xa.drop i) (Xb.drop i) out = r1) ∧ Aside0 (0 < out.length) ∧ Aside0 (Own wr w.heap.size v4 out) ∧ Aside0 (wr.heap[gb]? = some (.cells #[.int .i64 a0_0, .slice Xd Xa.length Xc, .slice Xg Xb.length Xe] 31 (0, 0))) ∧ Aside0 (Below w.heap.size w wr))
        case atStart => exact ⟨[a0_0], 0, rfl, ⟨by omega⟩, HST, ⟨by simp⟩, HO, XL, HB3⟩
        case round =>
          clear HO XL HB3 HST
          obtain ⟨out, i, rfl, HI, HP, HN, HO, BK, HB⟩ := hrel
          have hi9 : (i : Int) ≤ 9223372036854775806 ∨ ¬ i < Xa.length := by omega
          by_cases hlt : i < Xa.length
          · obtain ⟨ad1, e1, XR⟩ := Kd.at_int Xk.out (i : Int) (by omega) (by omega)
            cases e1
            have hlt2 : i < Xb.length := by have := HL.out; omega
            obtain ⟨ad2, e2, X5⟩ := Kd.at_int Xm.out (i : Int) (by omega) (by omega)
            cases e2
            rw [show ((i : Int)).toNat = i from by omega] at XR X5
            have hy1 := HB.out.cell (World.block_lt_of_cell? w _ XR) |>.trans XR
            have HX2 := Aside0.mk X5
            clear XR X5
            have hltb : decide ((i : Int) < (Xa.length : Int)) = true := decide_eq_true (by omega)
            obtain ⟨gr, cr, rfl, hgb1, hgb2⟩ := Own.slice HO.out HN.out
            have HRS := Aside0.mk (RowSafe.take HO.out (show (Value.slice (some ⟨gr, 0, none⟩) out.length cr).ownBlock = some gr from rfl))
            have HG := Aside0.mk hgb2
            clear hgb1 hgb2
            go_wp2
            go_loopg [4, 8] ((rd Xa (i : Int)).toNat - 1) (fun gk2 v4 v8 wr2 => ∃ (kk : Nat), v8 = .int .i64 ((kk : Int) + 1) ∧ Aside0 (kk + gk2 = (rd Xa (i : Int)).toNat - 1) ∧ Aside0 (Own wr2 w.heap.size v4 (plcUpto out (rd Xb (i : Int)) kk)) ∧ Aside0 (RowSafe wr2 v4 (plcUpto out (rd Xb (i : Int)) kk) gr out) ∧ Aside0 (wr2.heap[gb]? = some (.cells #[.int .i64 a0_0, .slice (some ad1) Xa.length Xc, .slice (some ad2) Xb.length Xe] 31 (0, 0))) ∧ Aside0 (Below w.heap.size w wr2))
            case atStart => exact ⟨0, rfl, ⟨by omega⟩, by rw [plcUpto_zero]; exact HO, by rw [plcUpto_zero]; exact HRS, BK, HB⟩
            case round =>
              clear HO BK HB HRS hy1
              obtain ⟨kk, rfl, HK2, HO, HRS, BK, HB⟩ := hrel
              have hN9 : (rd Xa (i : Int)) ≤ 4000 := by simpa using List.all_eq_true.1 HE.out _ (List.mem_of_getElem? (rd_nat Xa i hlt))
              by_cases hk : kk < (rd Xa (i : Int)).toNat - 1
              · have hkb : decide ((kk : Int) + 1 < rd Xa (i : Int)) = true := decide_eq_true (by omega)
                have hk9 : (kk : Int) + 1 ≤ 9223372036854775806 := by omega
                go_wp2
                go_loopg [4, 37] out.length (fun gk3 v4 v37 wr3 => ∃ (j : Nat), v37 = .int .i64 (j : Int) ∧ Aside0 (j + gk3 = out.length) ∧ Aside0 (Own wr3 w.heap.size v4 (plcUpto out (rd Xb (i : Int)) kk ++ plcRow (out.take j) (rd Xb (i : Int)) ((kk : Int) + 1))) ∧ Aside0 (RowSafe wr3 v4 (plcUpto out (rd Xb (i : Int)) kk ++ plcRow (out.take j) (rd Xb (i : Int)) ((kk : Int) + 1)) gr out) ∧ Aside0 (wr3.heap[gb]? = some (.cells #[.int .i64 a0_0, .slice (some ad1) Xa.length Xc, .slice (some ad2) Xb.length Xe] 31 (0, 0))) ∧ Aside0 (Below w.heap.size w wr3))
                case atStart => exact ⟨0, rfl, ⟨by omega⟩, by simpa [plcRow] using HO, by simpa [plcRow] using HRS, BK, HB⟩
                case round =>
                  clear HO BK HB HRS
                  obtain ⟨j, rfl, HJ, HO, HRS, BK, HB⟩ := hrel
                  by_cases hj : j < out.length
                  · have hjb : decide ((j : Int) < (out.length : Int)) = true := decide_eq_true (by omega)
                    have hjn : decide (j < out.length) = true := decide_eq_true hj
                    have z2 : wr.cell? ⟨gb, 2, none⟩ = some (.slice (some ad2) Xb.length Xe) := (blk_cell BK.out 2).trans rfl
                    have hy2 := HB.out.cell (World.block_lt_of_cell? w _ HX2.out) |>.trans HX2.out
                    have hyr := HRS.out.at_ j (rd out (j : Int)) (rd_nat out j hj)
                    have HR := Aside0.mk (plc_room hlt HL.out HP.out hk hj)
                    have hj9 : (j : Int) ≤ 9223372036854775806 := by have := HLim.out; have := plcs_length (Xa.drop i) (Xb.drop i) out; rw [HP.out] at this; omega
                    go_wp2_with (at_builtin; refine wpList_append_keep _ rfl (.tmp 41) (.tmp 51) 29 rfl w.heap.size 3 i0 (.int .i64 0) 1 8 Try.underlying29 hi X7 X8 X9 rfl (by decide) _ _ _ rfl (HO.out.alloc _) ⟨wr.heap.size, 0, none⟩ 1 1 [.int .i64 (wrap64 (rd out (j : Int) + wrap64 (((kk : Int) + 1) * rd Xb (i : Int))))] rfl rfl ?c1 ?c2 ?c3 ?c4 ?c5 ?_; (case c1 => exact cell_one_new _ _ _); (case c2 => simp [Value.oneCell']); (case c3 => have := HR.out; have := HLim.out; simp only [maxLen]; omega); (case c4 => have := HR.out; have := HLim.out; omega); (case c5 => have := HB.out.size; simp; omega); intro v5 w5 hown hgrow hat; have X6 := Aside0.mk (Own.snoc hown); have HRS5 := Aside0.mk (RowSafe.appended (HRS.out.alloc _) X6.out hgrow hat); have Ya := Aside0.mk (box_keep HO.out BK.out hgrow); have HB5 := Aside0.mk (below_app HO.out HB.out hgrow); clear hown hgrow hat)
                    go_roundg (out.length - (j + 1))
                    case measure => have := HJ.out; omega
                    case rel => exact ⟨j + 1, by go_num, ⟨by have := HJ.out; omega⟩, ⟨by rw [plcRow_snoc _ _ _ _ hj, ← List.append_assoc]; exact X6.out⟩, ⟨by rw [plcRow_snoc _ _ _ _ hj, ← List.append_assoc]; exact HRS5.out⟩, Ya, HB5⟩
                  · have hjb : decide ((j : Int) < (out.length : Int)) = false := decide_eq_false (by omega)
                    have hjn : decide (j < out.length) = false := decide_eq_false hj
                    have hT : out.take j = out := List.take_of_length_le (by omega)
                    rw [hT, ← plcUpto_succ] at HO HRS
                    clear hT
                    go_wp2
                    go_roundg ((rd Xa (i : Int)).toNat - 1 - (kk + 1))
                    case measure => have := HK2.out; omega
                    case rel => exact ⟨kk + 1, by go_num, ⟨by have := HK2.out; omega⟩, HO, HRS, BK, HB⟩
              · have hkb : decide ((kk : Int) + 1 < rd Xa (i : Int)) = false := decide_eq_false (by omega)
                go_wp2
                go_roundg (Xa.length - (i + 1))
                case measure => have := HI.out; omega
                case rel => 
                  have e : kk = (rd Xa (i : Int)).toNat - 1 := by have := HK2.out; omega
                  rw [e] at HO
                  have hP := HP.out
                  rw [plcs_drop _ _ _ _ hlt HL.out] at hP
                  exact ⟨_, i + 1, by go_num, ⟨by have := HI.out; omega⟩, ⟨hP⟩, ⟨Nat.lt_of_lt_of_le HN.out (plcUpto_length _ _ _)⟩, HO, BK, HB⟩
          · have hltb : decide ((i : Int) < (Xa.length : Int)) = false := decide_eq_false (by omega)
            have e : i = Xa.length := by have := HI.out; omega
            have hP := HP.out
            rw [List.drop_eq_nil_of_le (by omega), show ∀ S, plcs [] S out = out from fun S => by simp [plcs]] at hP
            subst hP
            go_wp2
            go_ret2
            exact ⟨_, rfl, Own.R HO.out, HB.out⟩

      · rw [if_neg hc] at h
        cases h

end

/-! ### quadratref06_Places: function 26 -/
def quadratref06_Places.f (k : Nat) (a0_0 : Int) (Xa : List Int) (Xb : List Int) : Option (List Int × Int) := (quadratref06_Valid.f k a0_0 Xa Xb).bind fun Xv => (if Xv = true then ((quadratref06_places.f k a0_0 Xa Xb).bind fun Xr => (some (Xr, 0))) else (some (([] : List Int), 2)))
theorem quadratref06_Places.mono : ∀ a0 a1 a2 k, LeO (quadratref06_Places.f k a0 a1 a2) (quadratref06_Places.f (k + 1) a0 a1 a2) := by
  intro a0 a1 a2 k
  unfold quadratref06_Places.f
  repeat' first
      | (with_reducible exact quadratref06_Valid.mono _ _ _ _)
      | (with_reducible exact quadratref06_places.mono _ _ _ _)
      | (with_reducible exact LeO.refl _)
      | (with_reducible exact LeO.none _)
      | (with_reducible refine LeO.ite ?_ ?_)
      | (with_reducible refine LeO.bind ?_ (fun _ => ?_))
      | exact quadratref06_Valid.mono _ _ _ _
      | exact quadratref06_places.mono _ _ _ _
      | exact LeO.none _
      | refine LeO.ite ?_ ?_
      | refine LeO.bind ?_ (fun _ => ?_)
set_option maxHeartbeats 8000000 in
set_option maxRecDepth 100000 in
theorem quadratref06_Places.calls (k : Nat) (a0_0 : Int) (Xd : Option Addr) (Xc : Nat) (Xa : List Int) (Xg : Option Addr) (Xe : Nat) (Xb : List Int) (r1 : List Int) (r2 : Int) (w : World) (hr0_1 : Kd.C (Kd.int .i64) w Xd Xa.length Xa) (hc0_1 : Xa.length ≤ Xc) (hr0_2 : Kd.C (Kd.int .i64) w Xg Xb.length Xb) (hc0_2 : Xb.length ≤ Xe) (h : quadratref06_Places.f k a0_0 Xa Xb = some (r1, r2)) :
    Calls Try.prog 26 #[.agg #[.int .i64 a0_0, .slice Xd Xa.length Xc, .slice Xg Xb.length Xe]] w fun e w' => ∃ v0_ : Value, e = .returned (.tuple #[v0_, .int .i64 r2]) ∧ Kd.R (Kd.int .i64) 3 w' w.heap.size (fun _ => True) v0_ r1 ∧ Below w.heap.size w w' := by
  have hu31 := Try.underlying31
  have Xk := Aside0.mk hr0_1
  have Xl := Aside0.mk hc0_1
  clear hr0_1 hc0_1
  have Xm := Aside0.mk hr0_2
  have Xn := Aside0.mk hc0_2
  clear hr0_2 hc0_2
  have HB := Aside0.mk (Below.refl w.heap.size w)
  have H : ((quadratref06_Valid.f k a0_0 Xa Xb).bind fun Xv => (if Xv = true then ((quadratref06_places.f k a0_0 Xa Xb).bind fun Xr => (some (Xr, 0))) else (some (([] : List Int), 2)))) = some (r1, r2) := h
  clear h
  replace H := Option.bind_eq_some_iff.mp H
  obtain ⟨Xv, XM, H⟩ := H
  replace H : (if Xv = true then ((quadratref06_places.f k a0_0 Xa Xb).bind fun Xr => (some (Xr, 0))) else (some (([] : List Int), 2))) = some (r1, r2) := H
  have A2 := Aside0.mk XM
  clear XM
  by_cases c3 : Xv = true
  case neg =>
   replace c3 := Bool.eq_false_iff.mpr c3
   subst c3
   have H1 : (some (([] : List Int), 2)) = some (r1, r2) := by rw [if_neg (show ¬ (false = true) by decide)] at H; exact H
   clear H
   have H := H1
   clear H1
   simp only [Option.some.injEq, Prod.mk.injEq] at H
   obtain ⟨rfl, rfl⟩ := H
   go_enter Try.func26, Try.ntmps26
   go_wp2_with (first | ((with_reducible refine gate_dst (N := 1) rfl ?_); refine box_event ?hg (N := 1) ?hd (cs := #[.int .i64 a0_0, .slice Xd Xa.length Xc, .slice Xg Xb.length Xe]) (t := 31) ?hr ?_; (case hd => rfl); (case hg => rfl); (case hr => first | (go_simp; done) | (go_simp; rfl)); intro Xi hg w10 hbox hb; have Xo := Aside0.mk (below_step (by exact upL HB.out) hb); have Xp := Aside0.mk (hbox); have Xu := Aside0.mk ((by rw [hg]; exact (below_size (by exact upL HB.out)) : w.heap.size ≤ Xi)); have Xy := Aside0.mk ((by rw [hg]; exact (below_size (by exact upL HB.out)) : w.heap.size ≤ Xi)); clear HB; have HB := Xo; have Xf := Xp; have XN := Xu; have Xq := Xy; clear Xo Xp Xu Xy; clear hb hbox hg; have XS : w10.cell? ⟨Xi, 0, none⟩ = some (.int .i64 a0_0) := (blk_cell Xf.out 0).trans rfl; have XT : w10.cell? ⟨Xi, 1, none⟩ = some (.slice Xd Xa.length Xc) := (blk_cell Xf.out 1).trans rfl; have XU : w10.cell? ⟨Xi, 2, none⟩ = some (.slice Xg Xb.length Xe) := (blk_cell Xf.out 2).trans rfl; have XV := blk_frozen Xf.out 0; have XW := blk_frozen Xf.out 1; have XX := blk_frozen Xf.out 2) | ((with_reducible refine gate_callee (f := 24) rfl ?_); refine goesL_ (some 5) rfl rfl Try.func24 (by kernel_rfl) rfl #[.agg #[.int .i64 a0_0, .slice Xd Xa.length Xc, .slice Xg Xb.length Xe]] rfl (by (try simp only [List.map_toArray, List.map_cons, List.map_nil]); first | done | rfl | (simp only [List.length_drop, List.length_take]; rfl)) ?_; (with_reducible refine (quadratref06_Valid.calls k a0_0 _ _ Xa _ _ Xb false _ ?side1 ?side2 ?side3 ?side4 A2.out).mono ?_); (case side1 => repeat (first | exact (Kd.C_below Xk.out HB.out) | (with_reducible refine Kd.C_alloc ?_ _) | (with_reducible refine Kd.C_drewN ?_ _) | (with_reducible refine Kd.C_drew ?_))); (case side2 => exact Xl.out); (case side3 => repeat (first | exact (Kd.C_below Xm.out HB.out) | (with_reducible refine Kd.C_alloc ?_ _) | (with_reducible refine Kd.C_drewN ?_ _) | (with_reducible refine Kd.C_drew ?_))); (case side4 => exact Xn.out); rintro e w12 ⟨rfl, hb⟩; refine ⟨_, rfl, ?_⟩; have Xo := Aside0.mk (blk_below (g := Xi) (o := .cells #[.int .i64 a0_0, .slice Xd Xa.length Xc, .slice Xg Xb.length Xe] 31 (0, 0)) (by exact upB Xf.out) hb); have Xp := Aside0.mk (below_step (by repeat (first | (with_reducible first | exact HB.out | apply upS | refine below_set ?_ Xq.out) | exact HB.out)) hb); clear Xf; clear HB; have Xf := Xo; have HB := Xp; clear Xo Xp; (try clear hb); (try clear XY); (try clear hk); (try clear hi)))
   go_ret2
   exact ⟨_, by first | rfl | (simp [errW_none, errW_some] <;> rfl) | (simp [*, errW_none, errW_some] <;> rfl), by first | exact Kd.R_nil _ _ _ _ _ | exact Kd.N_nil _ _ _ _ _ | exact Kd.V_nil _ _ _ _ _ | exact Kd.Q_nil _ _ _ _ _ | exact Kd.S_nil _ _ _ _ _, by repeat (first | (with_reducible first | exact HB.out | apply upS | refine below_set ?_ Xq.out) | exact HB.out)⟩
  subst c3
  have H1 : ((quadratref06_places.f k a0_0 Xa Xb).bind fun Xr => (some (Xr, 0))) = some (r1, r2) := by rw [if_pos rfl] at H; exact H
  clear H
  have H := H1
  clear H1
  replace H := Option.bind_eq_some_iff.mp H
  obtain ⟨Xr, XO, H⟩ := H
  replace H : (some (Xr, 0)) = some (r1, r2) := H
  have A4 := Aside0.mk XO
  clear XO
  simp only [Option.some.injEq, Prod.mk.injEq] at H
  obtain ⟨rfl, rfl⟩ := H
  go_enter Try.func26, Try.ntmps26
  go_wp2_with (first | ((with_reducible refine gate_dst (N := 1) rfl ?_); refine box_event ?hg (N := 1) ?hd (cs := #[.int .i64 a0_0, .slice Xd Xa.length Xc, .slice Xg Xb.length Xe]) (t := 31) ?hr ?_; (case hd => rfl); (case hg => rfl); (case hr => first | (go_simp; done) | (go_simp; rfl)); intro Xi hg w5 hbox hb; have Xo := Aside0.mk (below_step (by exact upL HB.out) hb); have Xp := Aside0.mk (hbox); have Xu := Aside0.mk ((by rw [hg]; exact (below_size (by exact upL HB.out)) : w.heap.size ≤ Xi)); have Xy := Aside0.mk ((by rw [hg]; exact (below_size (by exact upL HB.out)) : w.heap.size ≤ Xi)); clear HB; have HB := Xo; have Xf := Xp; have XN := Xu; have Xq := Xy; clear Xo Xp Xu Xy; clear hb hbox hg; have Xz : w5.cell? ⟨Xi, 0, none⟩ = some (.int .i64 a0_0) := (blk_cell Xf.out 0).trans rfl; have XA : w5.cell? ⟨Xi, 1, none⟩ = some (.slice Xd Xa.length Xc) := (blk_cell Xf.out 1).trans rfl; have XB : w5.cell? ⟨Xi, 2, none⟩ = some (.slice Xg Xb.length Xe) := (blk_cell Xf.out 2).trans rfl; have XC := blk_frozen Xf.out 0; have XD := blk_frozen Xf.out 1; have XE := blk_frozen Xf.out 2) | ((with_reducible refine gate_callee (f := 24) rfl ?_); refine goesL_ (some 5) rfl rfl Try.func24 (by kernel_rfl) rfl #[.agg #[.int .i64 a0_0, .slice Xd Xa.length Xc, .slice Xg Xb.length Xe]] rfl (by (try simp only [List.map_toArray, List.map_cons, List.map_nil]); first | done | rfl | (simp only [List.length_drop, List.length_take]; rfl)) ?_; (with_reducible refine (quadratref06_Valid.calls k a0_0 _ _ Xa _ _ Xb true _ ?side1 ?side2 ?side3 ?side4 A2.out).mono ?_); (case side1 => repeat (first | exact (Kd.C_below Xk.out HB.out) | (with_reducible refine Kd.C_alloc ?_ _) | (with_reducible refine Kd.C_drewN ?_ _) | (with_reducible refine Kd.C_drew ?_))); (case side2 => exact Xl.out); (case side3 => repeat (first | exact (Kd.C_below Xm.out HB.out) | (with_reducible refine Kd.C_alloc ?_ _) | (with_reducible refine Kd.C_drewN ?_ _) | (with_reducible refine Kd.C_drew ?_))); (case side4 => exact Xn.out); rintro e w7 ⟨rfl, hb⟩; refine ⟨_, rfl, ?_⟩; have Xo := Aside0.mk (blk_below (g := Xi) (o := .cells #[.int .i64 a0_0, .slice Xd Xa.length Xc, .slice Xg Xb.length Xe] 31 (0, 0)) (by exact upB Xf.out) hb); have Xp := Aside0.mk (below_step (by repeat (first | (with_reducible first | exact HB.out | apply upS | refine below_set ?_ Xq.out) | exact HB.out)) hb); clear Xf; clear HB; have Xf := Xo; have HB := Xp; clear Xo Xp; (try clear hb); (try clear XY); (try clear hk); (try clear hi); have XF : w7.cell? ⟨Xi, 0, none⟩ = some (.int .i64 a0_0) := (blk_cell Xf.out 0).trans rfl; have XG : w7.cell? ⟨Xi, 1, none⟩ = some (.slice Xd Xa.length Xc) := (blk_cell Xf.out 1).trans rfl; have XH : w7.cell? ⟨Xi, 2, none⟩ = some (.slice Xg Xb.length Xe) := (blk_cell Xf.out 2).trans rfl; have XI := blk_frozen Xf.out 0; have XJ := blk_frozen Xf.out 1; have XK := blk_frozen Xf.out 2) | ((with_reducible refine gate_callee (f := 52) rfl ?_); refine goesL_ (some 8) rfl rfl Try.func52 (by kernel_rfl) rfl #[.agg #[.int .i64 a0_0, .slice Xd Xa.length Xc, .slice Xg Xb.length Xe]] rfl (by (try simp only [List.map_toArray, List.map_cons, List.map_nil]); first | done | rfl | (simp only [List.length_drop, List.length_take]; rfl)) ?_; (with_reducible refine (quadratref06_places.calls k a0_0 _ _ Xa _ _ Xb Xr _ ?side1 ?side2 ?side3 ?side4 A4.out).mono ?_); (case side1 => repeat (first | exact (Kd.C_below Xk.out HB.out) | (with_reducible refine Kd.C_alloc ?_ _) | (with_reducible refine Kd.C_drewN ?_ _) | (with_reducible refine Kd.C_drew ?_))); (case side2 => exact Xl.out); (case side3 => repeat (first | exact (Kd.C_below Xm.out HB.out) | (with_reducible refine Kd.C_alloc ?_ _) | (with_reducible refine Kd.C_drewN ?_ _) | (with_reducible refine Kd.C_drew ?_))); (case side4 => exact Xn.out); rintro e w9 ⟨v365, rfl, ho0, hb⟩; refine ⟨_, rfl, ?_⟩; have Xo := Aside0.mk (Kd.R_lower ho0 (below_size (by repeat (first | (with_reducible first | exact HB.out | apply upS | refine below_set ?_ Xq.out) | exact HB.out)))); have Xp := Aside0.mk (blk_below (g := Xi) (o := .cells #[.int .i64 a0_0, .slice Xd Xa.length Xc, .slice Xg Xb.length Xe] 31 (0, 0)) (by exact upB Xf.out) hb); have Xu := Aside0.mk (below_step (by repeat (first | (with_reducible first | exact HB.out | apply upS | refine below_set ?_ Xq.out) | exact HB.out)) hb); clear Xf; clear HB; have XP := Xo; have Xf := Xp; have HB := Xu; clear Xo Xp Xu; (try clear hb); (try clear XY); (try clear hk); (try clear hi); (try clear ho0)))
  go_ret2
  exact ⟨_, by first | rfl | (simp [errW_none, errW_some] <;> rfl) | (simp [*, errW_none, errW_some] <;> rfl), by (with_reducible repeat apply upG); exact XP.out, by repeat (first | (with_reducible first | exact HB.out | apply upS | refine below_set ?_ Xq.out) | exact HB.out)⟩

/-! ### section_Size: function 27 -/
def section_Size.f (k : Nat) (a0_0 : Int) (Xa : List Int) (Xb : List Int) : Option (Int × Int) := (section_Valid.f k a0_0 Xa Xb).bind fun Xw => (if Xw = true then ((section_size.f k Xa).bind fun Xs => (some (Xs, 0))) else (some (0, 2)))
theorem section_Size.mono : ∀ a0 a1 a2 k, LeO (section_Size.f k a0 a1 a2) (section_Size.f (k + 1) a0 a1 a2) := by
  intro a0 a1 a2 k
  unfold section_Size.f
  repeat' first
      | (with_reducible exact section_Valid.mono _ _ _ _)
      | (with_reducible exact section_size.mono _ _)
      | (with_reducible exact LeO.refl _)
      | (with_reducible exact LeO.none _)
      | (with_reducible refine LeO.ite ?_ ?_)
      | (with_reducible refine LeO.bind ?_ (fun _ => ?_))
      | exact section_Valid.mono _ _ _ _
      | exact section_size.mono _ _
      | exact LeO.none _
      | refine LeO.ite ?_ ?_
      | refine LeO.bind ?_ (fun _ => ?_)
set_option maxHeartbeats 8000000 in
set_option maxRecDepth 100000 in
theorem section_Size.calls (k : Nat) (a0_0 : Int) (Xd : Option Addr) (Xc : Nat) (Xa : List Int) (Xg : Option Addr) (Xe : Nat) (Xb : List Int) (r1 : Int) (r2 : Int) (w : World) (hr0_1 : Kd.C (Kd.int .i64) w Xd Xa.length Xa) (hc0_1 : Xa.length ≤ Xc) (hr0_2 : Kd.C (Kd.int .i64) w Xg Xb.length Xb) (hc0_2 : Xb.length ≤ Xe) (h : section_Size.f k a0_0 Xa Xb = some (r1, r2)) :
    Calls Try.prog 27 #[.agg #[.int .i64 a0_0, .slice Xd Xa.length Xc, .slice Xg Xb.length Xe]] w fun e w' => e = .returned (.tuple #[.int .i64 r1, .int .i64 r2]) ∧ Below w.heap.size w w' := by
  have hu31 := Try.underlying31
  have Xk := Aside0.mk hr0_1
  have Xl := Aside0.mk hc0_1
  clear hr0_1 hc0_1
  have Xm := Aside0.mk hr0_2
  have Xn := Aside0.mk hc0_2
  clear hr0_2 hc0_2
  have HB := Aside0.mk (Below.refl w.heap.size w)
  have H : ((section_Valid.f k a0_0 Xa Xb).bind fun Xw => (if Xw = true then ((section_size.f k Xa).bind fun Xs => (some (Xs, 0))) else (some (0, 2)))) = some (r1, r2) := h
  clear h
  replace H := Option.bind_eq_some_iff.mp H
  obtain ⟨Xw, XM, H⟩ := H
  replace H : (if Xw = true then ((section_size.f k Xa).bind fun Xs => (some (Xs, 0))) else (some (0, 2))) = some (r1, r2) := H
  have A2 := Aside0.mk XM
  clear XM
  by_cases c3 : Xw = true
  case neg =>
   replace c3 := Bool.eq_false_iff.mpr c3
   subst c3
   have H1 : (some (0, 2)) = some (r1, r2) := by rw [if_neg (show ¬ (false = true) by decide)] at H; exact H
   clear H
   have H := H1
   clear H1
   simp only [Option.some.injEq, Prod.mk.injEq] at H
   obtain ⟨rfl, rfl⟩ := H
   go_enter Try.func27, Try.ntmps27
   go_wp2_with (first | ((with_reducible refine gate_dst (N := 1) rfl ?_); refine box_event ?hg (N := 1) ?hd (cs := #[.int .i64 a0_0, .slice Xd Xa.length Xc, .slice Xg Xb.length Xe]) (t := 31) ?hr ?_; (case hd => rfl); (case hg => rfl); (case hr => first | (go_simp; done) | (go_simp; rfl)); intro Xj hg w9 hbox hb; have Xo := Aside0.mk (below_step (by exact upL HB.out) hb); have Xp := Aside0.mk (hbox); have Xu := Aside0.mk ((by rw [hg]; exact (below_size (by exact upL HB.out)) : w.heap.size ≤ Xj)); have Xy := Aside0.mk ((by rw [hg]; exact (below_size (by exact upL HB.out)) : w.heap.size ≤ Xj)); clear HB; have HB := Xo; have Xh := Xp; have XQ := Xu; have Xt := Xy; clear Xo Xp Xu Xy; clear hb hbox hg; have XZ : w9.cell? ⟨Xj, 0, none⟩ = some (.int .i64 a0_0) := (blk_cell Xh.out 0).trans rfl; have X0 : w9.cell? ⟨Xj, 1, none⟩ = some (.slice Xd Xa.length Xc) := (blk_cell Xh.out 1).trans rfl; have X1 : w9.cell? ⟨Xj, 2, none⟩ = some (.slice Xg Xb.length Xe) := (blk_cell Xh.out 2).trans rfl; have X2 := blk_frozen Xh.out 0; have X3 := blk_frozen Xh.out 1; have X4 := blk_frozen Xh.out 2) | ((with_reducible refine gate_callee (f := 23) rfl ?_); refine goesL_ (some 5) rfl rfl Try.func23 (by kernel_rfl) rfl #[.agg #[.int .i64 a0_0, .slice Xd Xa.length Xc, .slice Xg Xb.length Xe]] rfl (by (try simp only [List.map_toArray, List.map_cons, List.map_nil]); first | done | rfl | (simp only [List.length_drop, List.length_take]; rfl)) ?_; (with_reducible refine (section_Valid.calls k a0_0 _ _ Xa _ _ Xb false _ ?side1 ?side2 ?side3 ?side4 A2.out).mono ?_); (case side1 => repeat (first | exact (Kd.C_below Xk.out HB.out) | (with_reducible refine Kd.C_alloc ?_ _) | (with_reducible refine Kd.C_drewN ?_ _) | (with_reducible refine Kd.C_drew ?_))); (case side2 => exact Xl.out); (case side3 => repeat (first | exact (Kd.C_below Xm.out HB.out) | (with_reducible refine Kd.C_alloc ?_ _) | (with_reducible refine Kd.C_drewN ?_ _) | (with_reducible refine Kd.C_drew ?_))); (case side4 => exact Xn.out); rintro e w11 ⟨rfl, hb⟩; refine ⟨_, rfl, ?_⟩; have Xo := Aside0.mk (blk_below (g := Xj) (o := .cells #[.int .i64 a0_0, .slice Xd Xa.length Xc, .slice Xg Xb.length Xe] 31 (0, 0)) (by exact upB Xh.out) hb); have Xp := Aside0.mk (below_step (by repeat (first | (with_reducible first | exact HB.out | apply upS | refine below_set ?_ Xt.out) | exact HB.out)) hb); clear Xh; clear HB; have Xh := Xo; have HB := Xp; clear Xo Xp; (try clear hb); (try clear XY); (try clear hk); (try clear hi)))
   go_ret2
   exact ⟨by first | rfl | (simp [errW_none, errW_some] <;> rfl) | (simp [*, errW_none, errW_some] <;> rfl), by repeat (first | (with_reducible first | exact HB.out | apply upS | refine below_set ?_ Xt.out) | exact HB.out)⟩
  subst c3
  have H1 : ((section_size.f k Xa).bind fun Xs => (some (Xs, 0))) = some (r1, r2) := by rw [if_pos rfl] at H; exact H
  clear H
  have H := H1
  clear H1
  replace H := Option.bind_eq_some_iff.mp H
  obtain ⟨Xs, XO, H⟩ := H
  replace H : (some (Xs, 0)) = some (r1, r2) := H
  have A4 := Aside0.mk XO
  clear XO
  simp only [Option.some.injEq, Prod.mk.injEq] at H
  obtain ⟨rfl, rfl⟩ := H
  go_enter Try.func27, Try.ntmps27
  go_wp2_with (first | ((with_reducible refine gate_dst (N := 1) rfl ?_); refine box_event ?hg (N := 1) ?hd (cs := #[.int .i64 a0_0, .slice Xd Xa.length Xc, .slice Xg Xb.length Xe]) (t := 31) ?hr ?_; (case hd => rfl); (case hg => rfl); (case hr => first | (go_simp; done) | (go_simp; rfl)); intro Xj hg w5 hbox hb; have Xo := Aside0.mk (below_step (by exact upL HB.out) hb); have Xp := Aside0.mk (hbox); have Xu := Aside0.mk ((by rw [hg]; exact (below_size (by exact upL HB.out)) : w.heap.size ≤ Xj)); have Xy := Aside0.mk ((by rw [hg]; exact (below_size (by exact upL HB.out)) : w.heap.size ≤ Xj)); clear HB; have HB := Xo; have Xh := Xp; have XQ := Xu; have Xt := Xy; clear Xo Xp Xu Xy; clear hb hbox hg; have Xz : w5.cell? ⟨Xj, 0, none⟩ = some (.int .i64 a0_0) := (blk_cell Xh.out 0).trans rfl; have XA : w5.cell? ⟨Xj, 1, none⟩ = some (.slice Xd Xa.length Xc) := (blk_cell Xh.out 1).trans rfl; have XB : w5.cell? ⟨Xj, 2, none⟩ = some (.slice Xg Xb.length Xe) := (blk_cell Xh.out 2).trans rfl; have XC := blk_frozen Xh.out 0; have XD := blk_frozen Xh.out 1; have XE := blk_frozen Xh.out 2) | ((with_reducible refine gate_callee (f := 23) rfl ?_); refine goesL_ (some 5) rfl rfl Try.func23 (by kernel_rfl) rfl #[.agg #[.int .i64 a0_0, .slice Xd Xa.length Xc, .slice Xg Xb.length Xe]] rfl (by (try simp only [List.map_toArray, List.map_cons, List.map_nil]); first | done | rfl | (simp only [List.length_drop, List.length_take]; rfl)) ?_; (with_reducible refine (section_Valid.calls k a0_0 _ _ Xa _ _ Xb true _ ?side1 ?side2 ?side3 ?side4 A2.out).mono ?_); (case side1 => repeat (first | exact (Kd.C_below Xk.out HB.out) | (with_reducible refine Kd.C_alloc ?_ _) | (with_reducible refine Kd.C_drewN ?_ _) | (with_reducible refine Kd.C_drew ?_))); (case side2 => exact Xl.out); (case side3 => repeat (first | exact (Kd.C_below Xm.out HB.out) | (with_reducible refine Kd.C_alloc ?_ _) | (with_reducible refine Kd.C_drewN ?_ _) | (with_reducible refine Kd.C_drew ?_))); (case side4 => exact Xn.out); rintro e w7 ⟨rfl, hb⟩; refine ⟨_, rfl, ?_⟩; have Xo := Aside0.mk (blk_below (g := Xj) (o := .cells #[.int .i64 a0_0, .slice Xd Xa.length Xc, .slice Xg Xb.length Xe] 31 (0, 0)) (by exact upB Xh.out) hb); have Xp := Aside0.mk (below_step (by repeat (first | (with_reducible first | exact HB.out | apply upS | refine below_set ?_ Xt.out) | exact HB.out)) hb); clear Xh; clear HB; have Xh := Xo; have HB := Xp; clear Xo Xp; (try clear hb); (try clear XY); (try clear hk); (try clear hi); have XF : w7.cell? ⟨Xj, 0, none⟩ = some (.int .i64 a0_0) := (blk_cell Xh.out 0).trans rfl; have XG : w7.cell? ⟨Xj, 1, none⟩ = some (.slice Xd Xa.length Xc) := (blk_cell Xh.out 1).trans rfl; have XH : w7.cell? ⟨Xj, 2, none⟩ = some (.slice Xg Xb.length Xe) := (blk_cell Xh.out 2).trans rfl; have XI := blk_frozen Xh.out 0; have XJ := blk_frozen Xh.out 1; have XK := blk_frozen Xh.out 2) | ((with_reducible refine gate_callee (f := 46) rfl ?_); refine goesL_ (some 9) rfl rfl Try.func46 (by kernel_rfl) rfl #[.slice Xd Xa.length Xc] rfl (by (try simp only [List.map_toArray, List.map_cons, List.map_nil]); first | done | rfl | (simp only [List.length_drop, List.length_take]; rfl)) ?_; (with_reducible refine (section_size.calls k _ _ Xa Xs _ ?side1 ?side2 A4.out).mono ?_); (case side1 => repeat (first | exact (Kd.C_below Xk.out HB.out) | (with_reducible refine Kd.C_alloc ?_ _) | (with_reducible refine Kd.C_drewN ?_ _) | (with_reducible refine Kd.C_drew ?_))); (case side2 => exact Xl.out); rintro e w' ⟨rfl, ⟨nd, rfl⟩⟩; refine ⟨_, rfl, ?_⟩))
  go_ret2
  exact ⟨by first | rfl | (simp [errW_none, errW_some] <;> rfl) | (simp [*, errW_none, errW_some] <;> rfl), by repeat (first | (with_reducible first | exact HB.out | apply upS | refine below_set ?_ Xt.out) | exact HB.out)⟩

end Go.Proofs.Yticjlkommabcjaa.PS
