/- slices.Sorted of slices.Values: the iterator's contract, what is collected, and what is sorted. -/
import Derived.RangeFuncBox
import Derived.RangeFuncLeaves
import Derived.Shelf.Abstract
import Derived.WalkKit
import Derived.OwnWalkIn
import Derived.TacticsInMore
import Derived.LoopNIn
import Derived.LoopIn
import Derived.Maps.AppendAt
import Derived.Sort.OwnSortedInts
import Derived.Test.YtnbijiopcgfmfaaProg
import Derived.Test.YtnbijiopcgfmfaaQSort
import Derived.Test.YtnbijiopcgfmfaaTevHand
import Derived.Test.YtnbijiopcgfmfaaTevPrim
import Derived.Test.YtnbijiopcgfmfaaShSort
namespace Go.Proofs.Ytnbijiopcgfmfaa.Tw
open Go Go.RowKit Go.Shelf Go.Proofs Go.Proofs.Ytnbijiopcgfmfaa.Q
set_option linter.unusedSectionVars false
set_option linter.unusedVariables false
set_option linter.unusedSimpArgs false
attribute [local go_sem] Oper.semAt_some
/-- What has come when k rounds are over. -/
def upto {α : Type} (f : Nat → α) (k : Nat) : List α := (List.range k).map f
theorem upto_succ {α : Type} (f : Nat → α) (k : Nat) : upto f (k + 1) = upto f k ++ [f k] := by simp [upto, List.range_succ]
theorem upto_length {α : Type} (f : Nat → α) (k : Nat) : (upto f k).length = k := by simp [upto]
theorem upto_all (zs : List Int) : upto (fun j => zs[j]?.getD 0) zs.length = zs := by
  apply List.ext_getElem
  · simp [upto]
  · intro i h1 h2
    simp [upto, h2]
theorem upto_take (zs : List Int) {k : Nat} (hk : k ≤ zs.length) : upto (fun j => zs[j]?.getD 0) k = zs.take k := by
  apply List.ext_getElem
  · simp [upto, hk]
  · intro i h1 h2
    have : i < zs.length := by simp [upto] at h1; omega
    simp [upto, this]
/-- A slice of whole numbers below n₀. -/
def Ints (n₀ : Nat) (W : World) (sv : Value) (zs : List Int) : Prop :=
  ∃ A cap, sv = .slice A zs.length cap ∧ (zs = [] ∨ ∃ b off, A = some ⟨b, off, none⟩ ∧ b < n₀ ∧ ∀ j, j < zs.length → W.cell? ⟨b, off + j, none⟩ = some (.int .i64 (zs[j]?.getD 0)))
theorem Ints.below {n₀ : Nat} {A B : World} (h : Below n₀ A B) {sv : Value} {zs : List Int} : Ints n₀ A sv zs → Ints n₀ B sv zs
  | ⟨a, cap, e, .inl q⟩ => ⟨a, cap, e, .inl q⟩
  | ⟨a, cap, e, .inr ⟨b, off, e2, hb, hc⟩⟩ => ⟨a, cap, e, .inr ⟨b, off, e2, hb, fun j hj => (h.cell (p := ⟨b, off + j, none⟩) hb).trans (hc j hj)⟩⟩
abbrev FV : Nat := 58
abbrev FV1 : Nat := 82
abbrev FA : Nat := 100
abbrev FC : Nat := 81
abbrev FS : Nat := 57
set_option maxRecDepth 100000 in
set_option maxHeartbeats 2000000 in
/-- The iterator's own loop, for every body that keeps what lay below n₀. -/
theorem values1_in (F : Fence) (n : Nat) (h7 : F.fn 82) (hro : F.round = none) (hn : 1 ≤ n) (l Bs n₀ b off len cap : Nat) (zs : List Int) (hreach : len * 8 ≤ 140737488351232) (hb : b < n₀) (J Jx : List Int → World → Prop)
    (hY : ∀ pre x W, J pre W → pre.length < len → YieldAt F (n - 1) Try.prog l #[.int .i64 x] W fun e W' =>
      (e = .returned (.bool true) ∧ J (pre ++ [x]) W' ∧ Below n₀ W W') ∨ (e = .returned (.bool false) ∧ Jx (pre ++ [x]) W'))
    (W : World) (hBs : W.cell? ⟨Bs, 0, none⟩ = some (.slice (some ⟨b, off, none⟩) len cap)) (hc : ∀ j, j < len → W.cell? ⟨b, off + j, none⟩ = some (.int .i64 (zs[j]?.getD 0))) (h0 : J [] W) :
    CallsIn F n Try.prog 82 #[.func (.yield l) #[] #[], .pointer (some ⟨Bs, 0, none⟩)] W fun e W' => (∃ v, e = .returned v) ∧
      ((∃ ys, ys = upto (fun j => zs[j]?.getD 0) len ∧ J ys W') ∨ (∃ pre, (∃ k, k ≤ len ∧ pre = upto (fun j => zs[j]?.getD 0) k) ∧ Jx pre W')) := by
  refine callsIn_of_wp Try.func82 rfl h7 ?_ hro
  simp only [show Try.f82.ntmps = 16 from rfl, List.size_toArray, List.length_cons, List.length_nil, Nat.reduceAdd, Nat.reduceSub, Array.replicate_succ, Array.replicate_zero, List.push_toArray, List.append_toArray, List.nil_append, List.cons_append]
  gi_wp2
  gi_loopw [7] (fun i wr => ∃ k : Nat, k ≤ len ∧ i = .int .i64 k ∧ J (upto (fun j => zs[j]?.getD 0) k) wr ∧ Below n₀ W wr)
    (fun i _ => len - (intOf i).toNat)
  case atStart => exact ⟨0, Nat.zero_le _, rfl, h0, Below.refl _ _⟩
  case round =>
    obtain ⟨k, hk, rfl, hJs, hnx⟩ := hrel
    have hcx : k < len → wr.cell? ⟨b, off + k, none⟩ = some (.int .i64 (zs[k]?.getD 0)) := fun h => (hnx.cell (p := ⟨b, off + k, none⟩) hb).trans (hc k h)
    by_cases hlt : k < len
    · obtain ⟨fn, tmps, assign, body, hy, hR⟩ := hY _ (zs[k]?.getD 0) wr hJs (by rw [upto_length]; exact hlt)
      have hcx' := hcx hlt
      gi_wp2
      refine hR.mono ?_
      rintro e W3 (⟨rfl, hJ3, hk3⟩ | ⟨rfl, hJx3⟩)
      · gi_wp2
        go_roundw
        case rel => exact ⟨k + 1, by omega, by simp, by rw [upto_succ]; exact hJ3, hnx.trans hk3⟩
        case measure => simp [intOf]; omega
      · gi_wp2
        refine bodyPost_ret (results_none rfl _ _ _) rfl ?_
        exact ⟨⟨_, rfl⟩, .inr ⟨_, ⟨k + 1, by omega, (upto_succ _ _).symm⟩, hJx3⟩⟩
    · obtain rfl : k = len := by omega
      gi_wp2
      go_end0
      exact ⟨⟨_, rfl⟩, .inl ⟨_, rfl, hJs⟩⟩
set_option maxRecDepth 100000 in
set_option maxHeartbeats 1000000 in
/-- At an empty slice: no round. -/
theorem values1_nil_in (F : Fence) (n : Nat) (h7 : F.fn 82) (hro : F.round = none) (l Bs : Nat) (A : Option Addr) (cap : Nat) (J : List Int → World → Prop) (W : World) (hBs : W.cell? ⟨Bs, 0, none⟩ = some (.slice A 0 cap)) (h0 : J [] W) :
    CallsIn F n Try.prog 82 #[.func (.yield l) #[] #[], .pointer (some ⟨Bs, 0, none⟩)] W fun e W' => (∃ v, e = .returned v) ∧ J [] W' := by
  refine callsIn_of_wp Try.func82 rfl h7 ?_ hro
  simp only [show Try.f82.ntmps = 16 from rfl, List.size_toArray, List.length_cons, List.length_nil, Nat.reduceAdd, Nat.reduceSub, Array.replicate_succ, Array.replicate_zero, List.push_toArray, List.append_toArray, List.nil_append, List.cons_append]
  gi_wp2
  gi_loopw [7] (fun i wr => i = .int .i64 0 ∧ J [] wr) (fun _ _ => 0)
  case atStart => exact ⟨rfl, h0⟩
  case round =>
    obtain ⟨rfl, hJs⟩ := hrel
    gi_wp2
    go_end0
    exact ⟨⟨_, rfl⟩, hJs⟩
set_option maxHeartbeats 1000000 in
/-- The slice value is boxed; the function value captures the box. -/
theorem values_in (F : Fence) (n : Nat) (h5 : F.fn 58) (hro : F.round = none) (a : Option Addr) (len cap : Nat) (w : World) :
    CallsIn F n Try.prog 58 #[.slice a len cap] w fun e w' => e = .returned (.func (.func 82) #[] #[.pointer (some ⟨w.heap.size, 0, none⟩)]) ∧ w' = w.alloc (.cells #[.slice a len cap] 28) := by
  refine callsIn_of_wp Try.func58 rfl h5 ?_ hro
  simp only [show Try.f58.ntmps = 4 from rfl, List.size_toArray, List.length_cons, List.length_nil, Nat.reduceAdd, Nat.reduceSub, Array.replicate_succ, Array.replicate_zero, List.push_toArray, List.append_toArray, List.nil_append, List.cons_append]
  gi_wp2
  go_ret
  exact ⟨rfl, rfl⟩
theorem values_stops (F : Fence) (n : Nat) (h7 : F.fn 82) (hro : F.round = none) (hn : 1 ≤ n) (Bs n₀ : Nat) (sv : Value) (zs : List Int) (hreach : zs.length * 8 ≤ 140737488351232) (w : World) (hBs : Bs < w.heap.size) (hn₀ : n₀ ≤ w.heap.size)
    (hc : w.cell? ⟨Bs, 0, none⟩ = some sv) (hI : Ints n₀ w sv zs) :
    SeqStopsK F n Try.prog 82 #[.pointer (some ⟨Bs, 0, none⟩)] (fun x : Int => #[Value.int .i64 x]) (Below n₀) (fun ys => ys = zs) (fun pre => pre <+: zs) zs.length w := fun l J Jx W hW _ _ hY h0 => by
  have hc' := (hW.cell (p := ⟨Bs, 0, none⟩) hBs).trans hc
  obtain ⟨A, cap, rfl, rfl | ⟨b, off, rfl, hb, hcs⟩⟩ := hI.below (hW.mono hn₀)
  · exact (values1_nil_in F n h7 hro l Bs A cap J W hc' h0).mono fun e W' ⟨he, hj⟩ => ⟨he, .inl ⟨_, rfl, hj⟩⟩
  · refine (values1_in F n h7 hro hn l Bs n₀ b off zs.length cap zs hreach hb J Jx hY W hc' hcs h0).mono ?_
    rintro e W' ⟨he, ⟨ys, rfl, hj⟩ | ⟨pre, ⟨k, hk, rfl⟩, hj⟩⟩
    · exact ⟨he, .inl ⟨_, upto_all zs, hj⟩⟩
    · exact ⟨he, .inr ⟨_, by rw [upto_take zs hk]; exact List.take_prefix _ _, hj⟩⟩
theorem infoI : (Try.prog.info? 3).map (fun i => (i.zero, i.size, i.bytes)) = some (some (.int .i64 0), 1, 8) := by kernel_rfl
theorem underL : Try.prog.underlying 28 = some (.slice 3) := by kernel_rfl
set_option maxRecDepth 100000 in
set_option maxHeartbeats 2000000 in
/-- slices.AppendSeq(nil, that iterator): a slice of the call's own that holds the numbers; nothing that lay has turned. -/
theorem append_in (F : Fence) (n : Nat) (h7 : F.fn 82) (hA : F.fn 100) (hro : F.round = none) (hn : 3 ≤ n) (Bs : Nat) (sv : Value) (zs : List Int) (hreach : zs.length * 8 ≤ 140737488351232) (w : World) (hBs : Bs < w.heap.size)
    (hc : w.cell? ⟨Bs, 0, none⟩ = some sv) (hI : Ints w.heap.size w sv zs) :
    CallsIn F n Try.prog 100 #[.slice none 0 0, .func (.func 82) #[] #[.pointer (some ⟨Bs, 0, none⟩)]] w fun e W' => ∃ v, e = .returned v ∧ W'.ownsRow w.heap.size 3 1 v zs.length (zs.map (Value.int .i64)) ∧ (v = .slice none 0 0 ↔ zs = []) ∧ Below w.heap.size w W' := by
  have h1 : 1 ≤ n := by omega
  obtain ⟨i0, hi, hz0, hz1, hz2⟩ := info_parts infoI
  refine callsIn_of_wp_marks Try.func100 rfl hA ?_ hro
  simp only [show Try.f100.ntmps = 13 from rfl, List.size_toArray, List.length_cons, List.length_nil, Nat.reduceAdd, Nat.reduceSub, Array.replicate_succ, Array.replicate_zero, List.push_toArray, List.append_toArray, List.nil_append, List.cons_append]
  gi_wp2
  have bO := Boxed.new w 28 (.slice none 0 0)
  have hB0 : Below w.heap.size w (w.alloc (.cells #[.slice none 0 0] 28)) := (Below.refl _ w).alloc (Nat.le_refl _) _
  refine wpIn_rangeFunc_ownG hro h1 (gf := 82) (lb := #[.pointer (some ⟨Bs, 0, none⟩)]) rfl h7 (enters_of Try.func82 (by kernel_rfl) rfl)
    (values_stops F (n - 1) h7 hro (by omega) Bs w.heap.size sv zs hreach w hBs (Nat.le_refl _) hc hI) belowK_t (belowK_b (by simp)) hB0 (fun _ => rfl)
    (fun pre W => (∃ v, Boxed W w.heap.size 28 v ∧ W.ownsRow w.heap.size 3 1 v pre.length (pre.map (Value.int .i64)) ∧ (v = .slice none 0 0 ↔ pre = [])) ∧ Below w.heap.size w W)
    (fun _ _ _ => False)
    (OwnFrom.and (Own.from (holdsRow_own w.heap.size w.heap.size 28 3 1 (fun pre => pre.length) (fun pre => pre.map (Value.int .i64)) (fun pre v => v = .slice none 0 0 ↔ pre = [])) _) (ownFrom_below (Nat.le_refl _) (by simp)))
    (fun _ _ _ _ _ hs _ _ => hs)
    ⟨⟨_, bO, World.ownsRow_nil _ _ _ _, by simp⟩, hB0⟩
    (fun x => { tmps := #[.slice none 0 0, .func (.func 82) #[] #[.pointer (some ⟨Bs, 0, none⟩)], .pointer (some ⟨w.heap.size, 0, none⟩), undef, .slice none 0 0, .int .i64 x, .func (.func 82) #[] #[.pointer (some ⟨Bs, 0, none⟩)], .int .i64 x, undef, undef, undef, undef, undef], defers := [] }) ?assign ?body ?done ?stop
  case assign =>
    intro l x W K hK
    gi_wp2
    exact hK
  case body =>
    rintro l pre x W ⟨⟨v, hv, hrow, hnil⟩, hB⟩ hlt
    have hc := hv.cell
    have hmax : zs.length ≤ maxLen := by unfold maxLen; omega
    gi_wp2_with (gi_at_builtin; refine wpListIn_append_own _ rfl _ _ 28 rfl w.heap.size 3 i0 (.int .i64 0) 1 8 underL hi hz0 hz1 hz2 rfl (by decide) _ _ _ rfl (hrow.alloc _) ⟨W.heap.size, 0, none⟩ 1 1 [.int .i64 x] rfl rfl (cell_one_new _ _ _) (by simp [Value.oneCell']) (by omega) (by omega) (by have := hB.size; simp; omega) ?_; intro v' w1 hown' hgrow _; obtain ⟨g', cap', rfl⟩ := ownsRow_succ hown'; obtain ⟨hv1, hv2, hr2, hk2, hb2⟩ := hv.appended (by decide) hrow hB.size (Nat.le_refl _) hown' hgrow; have hc1 := hv1.cell; have hf1 := hv1.frozen)
    exact ⟨hk2.from _, hb2, ⟨_, hv2, by simpa using hr2, by simp⟩, hB.trans hb2⟩
  case done =>
    rintro D ys W hD rfl ⟨⟨v, hv, hrow, hnil⟩, hB⟩ hK
    have hc := hv.cell
    gi_wp2
    refine ⟨by simp, .inl ⟨_, _, rfl, run_takeDeferred hK, ?_⟩⟩
    exact ⟨_, results_tmp rfl _ _ _, v, rfl, ownsRow_putObj hrow _ hK rfl, hnil, hB.trans (belowK_b (w := w) (Nat.le_refl _) W D _ _ (by simp at hD; omega) hK rfl rfl)⟩
  case stop =>
    rintro D c pre W _ _ h _
    exact h.elim
set_option maxHeartbeats 1000000 in
theorem collect_in (F : Fence) (n : Nat) (h7 : F.fn 82) (hA : F.fn 100) (hC : F.fn 81) (hro : F.round = none) (hn : 4 ≤ n) (Bs : Nat) (sv : Value) (zs : List Int) (hreach : zs.length * 8 ≤ 140737488351232) (w : World) (hBs : Bs < w.heap.size)
    (hc : w.cell? ⟨Bs, 0, none⟩ = some sv) (hI : Ints w.heap.size w sv zs) :
    CallsIn F n Try.prog 81 #[.func (.func 82) #[] #[.pointer (some ⟨Bs, 0, none⟩)]] w fun e W' => ∃ v, e = .returned v ∧ W'.ownsRow w.heap.size 3 1 v zs.length (zs.map (Value.int .i64)) ∧ (v = .slice none 0 0 ↔ zs = []) ∧ Below w.heap.size w W' := by
  have h1 : 1 ≤ n := by omega
  refine callsIn_of_wp Try.func81 rfl hC ?_ hro
  simp only [show Try.f81.ntmps = 5 from rfl, List.size_toArray, List.length_cons, List.length_nil, Nat.reduceAdd, Nat.reduceSub, Array.replicate_succ, Array.replicate_zero, List.push_toArray, List.append_toArray, List.nil_append, List.cons_append]
  gi_wp2_with (gi_at_call 100; refine (append_in F (n - 1) h7 hA hro (by omega) Bs sv zs hreach _ hBs hc hI).mono ?_; rintro e w' ⟨v, rfl, hrow, hnil, hb⟩)
  go_ret
  exact ⟨v, rfl, hrow, hnil, hb⟩
open Go.Proofs.Ytnbijiopcgfmfaa.Tev
set_option maxRecDepth 100000 in
set_option maxHeartbeats 2000000 in
/-- slices.Sorted of that iterator. -/
theorem sorted_in (F : Fence) (hF : F = Fence.wide) (n : Nat) (hn : 6 ≤ n) (Bs : Nat) (sv : Value) (zs : List Int) (hreach : zs.length * 8 ≤ 140737488351232) (w : World) (hBs : Bs < w.heap.size) (hc : w.cell? ⟨Bs, 0, none⟩ = some sv) (hI : Ints w.heap.size w sv zs) :
    CallsIn F n Try.prog 57 #[.func (.func 82) #[] #[.pointer (some ⟨Bs, 0, none⟩)]] w fun e W' => ∃ v, e = .returned v ∧ W'.ownsRow w.heap.size 3 1 v zs.length ((sortQ zs).map (Value.int .i64)) ∧ (v = .slice none 0 0 ↔ zs = []) ∧ Below w.heap.size w W' := by
  have hro : F.round = none := by subst hF; rfl
  have hw : ∀ {m : Nat} {f : FuncId} {args : Array Value} {w : World} {R : Ending → World → Prop}, Calls Try.prog f args w R → CallsIn F m Try.prog f args w R := by subst hF; exact callsIn_wide.2
  have g1 : F.fn 82 := by subst hF; trivial
  have g2 : F.fn 100 := by subst hF; trivial
  have g3 : F.fn 81 := by subst hF; trivial
  have g4 : F.fn 55 := by subst hF; trivial
  have g5 : F.fn 57 := by subst hF; trivial
  clear hF
  have h1 : 1 ≤ n := by omega
  refine callsIn_of_wp Try.func57 rfl g5 ?_ hro
  simp only [show Try.f57.ntmps = 9 from rfl, List.size_toArray, List.length_cons, List.length_nil, Nat.reduceAdd, Nat.reduceSub, Array.replicate_succ, Array.replicate_zero, List.push_toArray, List.append_toArray, List.nil_append, List.cons_append]
  gi_wp2_with (gi_at_call 81; refine (collect_in F (n - 1) g1 g2 g3 hro (by omega) Bs sv zs hreach _ hBs hc hI).mono ?_; rintro e W ⟨v, rfl, hrow, hnil, hb⟩)
  rcases hrow.2 with ⟨rfl, hz⟩ | ⟨g, cap, cur, rfl, hbase, hgb, r1, r2, r3, r4⟩
  · have hss : zs = [] := List.eq_nil_of_length_eq_zero hz
    subst hss
    gi_wp2_with (gi_at_call 55; refine (hw (sort_ok.none none 0 W)).mono ?_; rintro e w' ⟨rfl, rfl⟩)
    go_ret
    exact ⟨.slice none 0 0, rfl, by rw [List.length_eq_zero_iff.1 (show (sortQ []).length = 0 from sortQ_len [])]; exact hrow, by simp, hb⟩
  · have hH : Sort.Holds (Value.int .i64) W g 0 zs.toArray := holds_of_blockI hgb (by simpa using r4)
    have hgl : g < W.heap.size := (Array.getElem?_eq_some_iff.1 hgb).1
    gi_wp2_with (gi_at_call 55; refine (hw (sort_ok.some g 0 cap zs W hH hgl (by omega))).mono ?_; rintro e w' ⟨rfl, nn, os, rfl⟩)
    go_ret
    exact ⟨_, rfl, ownsRow_sortedI (sortQ_len zs) hbase hgb r1 r2 r3, hnil, hb.grown (grownBy_sortedI _) hb.size (fun j hj => by cases hj; exact hbase)⟩
set_option maxRecDepth 100000 in
set_option maxHeartbeats 2000000 in
theorem twice_in (F : Fence) (hF : F = Fence.wide) (n : Nat) (hn : 8 ≤ n) (zs : List Int) (hreach : zs.length * 8 ≤ 140737488351232) (w : World) (sv : Value) (hI : Ints w.heap.size w sv zs) :
    CallsIn F n Try.prog 26 #[sv] w fun e W' => e = .returned (.bool (decide (¬ zs.Nodup))) ∧ Below w.heap.size w W' := by
  have hro : F.round = none := by subst hF; rfl
  have hw : ∀ {m : Nat} {f : FuncId} {args : Array Value} {w : World} {R : Ending → World → Prop}, Calls Try.prog f args w R → CallsIn F m Try.prog f args w R := by subst hF; exact callsIn_wide.2
  have g1 : F.fn 58 := by subst hF; trivial
  have g2 : F.fn 57 := by subst hF; trivial
  have g3 : F.fn 56 := by subst hF; trivial
  have g4 : F.fn 26 := by subst hF; trivial
  have hso := sorted_in F hF (n - 1) (by omega)
  clear hF
  have h1 : 1 ≤ n := by omega
  have htw := twice_iff zs
  have hcl := cpt_le (sortQ zs)
  have hsl := sortQ_len zs
  have hd : decide (((cpt (sortQ zs)).length : Int) < (zs.length : Int)) = decide (¬ zs.Nodup) := by
    rw [decide_eq_decide, ← htw]; omega
  obtain ⟨A, cap0, rfl, hA⟩ := hI
  refine callsIn_of_wp Try.func26 rfl g4 ?_ hro
  simp only [show Try.f26.ntmps = 13 from rfl, List.size_toArray, List.length_cons, List.length_nil, Nat.reduceAdd, Nat.reduceSub, Array.replicate_succ, Array.replicate_zero, List.push_toArray, List.append_toArray, List.nil_append, List.cons_append]
  have hB0 : Below w.heap.size w (w.alloc (.cells #[.slice A zs.length cap0] 28)) := (Below.refl _ w).alloc (Nat.le_refl _) _
  have bN := Boxed.new w 28 (.slice A zs.length cap0)
  have hI1 : Ints w.heap.size w (.slice A zs.length cap0) zs := ⟨A, cap0, rfl, hA⟩
  have hI2 : Ints (w.alloc (.cells #[.slice A zs.length cap0] 28)).heap.size (w.alloc (.cells #[.slice A zs.length cap0] 28)) (.slice A zs.length cap0) zs := by
    obtain ⟨a, c, e, q⟩ := hI1.below hB0
    refine ⟨a, c, e, q.imp id ?_⟩
    rintro ⟨b, off, e2, hb, hc⟩
    exact ⟨b, off, e2, by simp; omega, hc⟩
  gi_wp2_with (first
    | (gi_at_call 58; refine (values_in F (n - 1) g1 hro _ _ _ _).mono ?_; rintro e w' ⟨rfl, rfl⟩)
    | (gi_at_call 57; refine (hso w.heap.size _ zs hreach _ (by simp) bN.cell hI2).mono ?_; rintro e W ⟨v, rfl, hrow, hnil, hb⟩))
  have hb2 : Below w.heap.size w W := hB0.trans (hb.mono (by simp))
  rcases hrow.2 with ⟨rfl, hz⟩ | ⟨g, cap, cur, rfl, hbase, hgb, r1, r2, r3, r4⟩
  · have hss : zs = [] := List.eq_nil_of_length_eq_zero hz
    subst hss
    gi_wp2_with (gi_at_call 56; refine (hw (comp_ok.none none 0 W)).mono ?_; rintro e w' ⟨rfl, rfl⟩)
    go_ret
    exact ⟨by simp, hb2⟩
  · have hH : Sort.Holds (Value.int .i64) W g 0 (sortQ zs).toArray := holds_of_blockI hgb (by rw [sortQ_len]; simpa using r4)
    have cc := comp_ok.some g 0 cap (sortQ zs) W hH (by omega) (by omega)
    rw [hsl] at cc
    gi_wp2_with (gi_at_call 56; refine (hw cc).mono ?_; rintro e w' ⟨rfl, q, rfl⟩)
    go_ret
    refine ⟨?_, ?_⟩
    · simp
    · have := grownBy_sortedI (w := W) (g := g) (n := q) (os := #[]) (cpt (sortQ zs) ++ List.replicate (zs.length - (cpt (sortQ zs)).length) 0).toArray
      rw [Sort.grow_empty] at this
      exact hb2.grown this hb2.size (fun j hj => by cases hj; simp at hbase; omega)
/-- What a slice of trees says of the memory. -/
theorem ints_of {w : World} {F : Nat → Prop} (hF : ∀ b, F b → b < w.heap.size) {b : Bool} {cap : Option Nat} {l : List Int} {u : Value} (h : RT ⟨w, F, w.heap.size, fun _ => none⟩ (SL b cap l.length (ints l)) u) : Ints w.heap.size w u l := by
  have rd : ∀ (l : List Int) (b o : Nat), RCs w F b o (ints l) → ∀ j, j < l.length → w.cell? ⟨b, o + j, none⟩ = some (.int .i64 (l[j]?.getD 0)) := by
    intro l
    induction l with
    | nil => intro b o _ j hj; simp at hj
    | cons x l ih =>
      intro b o h j hj
      simp only [ints, List.map_cons, RCs, RC] at h
      obtain ⟨⟨u, h1, rfl, _⟩, h2⟩ := h
      cases j with
      | zero => simpa using h1
      | succ j =>
        have := ih b (o + 1) h2 j (by simpa using hj)
        rw [show o + (j + 1) = o + 1 + j by omega]
        simpa using this
  cases b with
  | true =>
    simp only [SL, RT, RC] at h
    obtain ⟨A, c, rfl, _, _, q⟩ := h
    refine ⟨A, c, rfl, q.imp (fun q => List.length_eq_zero_iff.1 q.1) ?_⟩
    rintro ⟨b, o, rfl, hb, hc⟩
    exact ⟨b, o, rfl, hF b hb, rd l b o hc⟩
  | false =>
    simp only [SL, RT] at h
    obtain ⟨A, c, rfl, _, _, q⟩ := h
    refine ⟨A, c, rfl, q.imp (fun q => List.length_eq_zero_iff.1 q.1) ?_⟩
    rintro ⟨b, o, rfl, hb, hc⟩
    exact ⟨b, o, rfl, hb, rd l b o hc⟩
theorem twice_R (b : Bool) (cap : Option Nat) (l : List Int) (h : (l.length : Int) * 8 ≤ 140737488351232) : CallsR E0.P 26 [SL b cap l.length (ints l)] (B (decide (¬ l.Nodup)), []) := by
  refine ⟨⟨_, Try.func26, by kernel_rfl, by kernel_rfl⟩, fun w F us hF hr => ?_⟩
  simp only [RTs] at hr
  obtain ⟨u, vs, rfl, hu, rfl⟩ := hr
  refine (callsIn_wide.1 (twice_in Fence.wide rfl 8 (Nat.le_refl _) l (by omega) w u (ints_of hF hu))).mono ?_
  rintro e w' ⟨rfl, hb⟩
  refine ⟨_, rfl, hb, ?_⟩
  exact ⟨F, fun _ => none, fun _ h => h, fun b h => .inl h, fun n base σ _ => by simp only [lift, liftC, RT, RC, flat]; trivial, fun k l h => by simp at h, fun i j b sh sh' h => by simp at h⟩
end Go.Proofs.Ytnbijiopcgfmfaa.Tw
