/- section.Twice: whether the sorted list gets shorter when neighbours that are the same are left out. -/
import Derived.Test.YtochkebkfoophaaCTwi
import Derived.Test.YtochkebkfoophaaTevPrim
import Derived.Test.YtochkebkfoophaaShSort
namespace Go.Proofs.Ytochkebkfoophaa.Tw
open Go Go.RowKit Go.Shelf Go.Proofs Go.Proofs.Ytochkebkfoophaa.Q Go.Proofs.Ytochkebkfoophaa.Tev
set_option linter.unusedSectionVars false
set_option linter.unusedVariables false
set_option linter.unusedSimpArgs false
attribute [local go_sem] Oper.semAt_some
set_option maxRecDepth 100000 in
set_option maxHeartbeats 2000000 in
/-- slices.Sorted of that iterator. -/
theorem sorted_in (F : Fence) (hF : F = Fence.wide) (n : Nat) (hn : 6 ≤ n) (Bs : Nat) (sv : Value) (zs : List Int) (hreach : zs.length * 8 ≤ 140737488351232) (w : World) (hBs : Bs < w.heap.size) (hc : w.cell? ⟨Bs, 0, none⟩ = some sv) (hI : Ints w.heap.size w sv zs) :
    CallsIn F n Try.prog 59 #[.func (.func 71) #[] #[.pointer (some ⟨Bs, 0, none⟩)]] w fun e W' => ∃ v, e = .returned v ∧ W'.ownsRow w.heap.size 3 1 v zs.length ((sortQ zs).map (Value.int .i64)) ∧ (v = .slice none 0 0 ↔ zs = []) ∧ Below w.heap.size w W' := by
  have hro : F.round = none := by subst hF; rfl
  have hw : ∀ {m : Nat} {f : FuncId} {args : Array Value} {w : World} {R : Ending → World → Prop}, Calls Try.prog f args w R → CallsIn F m Try.prog f args w R := by subst hF; exact callsIn_wide.2
  have g1 : F.fn 71 := by subst hF; trivial
  have g2 : F.fn 72 := by subst hF; trivial
  have g3 : F.fn 69 := by subst hF; trivial
  have g4 : F.fn 70 := by subst hF; trivial
  have g5 : F.fn 59 := by subst hF; trivial
  clear hF
  have h1 : 1 ≤ n := by omega
  refine callsIn_of_wp Try.func59 rfl g5 ?_ hro
  simp only [show Try.f59.ntmps = 9 from rfl, List.size_toArray, List.length_cons, List.length_nil, Nat.reduceAdd, Nat.reduceSub, Array.replicate_succ, Array.replicate_zero, List.push_toArray, List.append_toArray, List.nil_append, List.cons_append]
  gi_wp2_with (gi_at_call 69; refine (collect_in F (n - 1) g1 g2 g3 hro (by omega) Bs sv zs hreach _ hBs hc hI).mono ?_; rintro e W ⟨v, rfl, hrow, hnil, hb⟩)
  rcases hrow.2 with ⟨rfl, hz⟩ | ⟨g, cap, cur, rfl, hbase, hgb, r1, r2, r3, r4⟩
  · have hss : zs = [] := List.eq_nil_of_length_eq_zero hz
    subst hss
    gi_wp2_with (gi_at_call 70; refine (hw (sort_ok.none none 0 W)).mono ?_; rintro e w' ⟨rfl, rfl⟩)
    go_ret
    exact ⟨.slice none 0 0, rfl, by rw [List.length_eq_zero_iff.1 (show (sortQ []).length = 0 from sortQ_len [])]; exact hrow, by simp, hb⟩
  · have hH : Sort.Holds (Value.int .i64) W g 0 zs.toArray := holds_of_blockI hgb (by simpa using r4)
    have hgl : g < W.heap.size := (Array.getElem?_eq_some_iff.1 hgb).1
    gi_wp2_with (gi_at_call 70; refine (hw (sort_ok.some g 0 cap zs W hH hgl (by omega))).mono ?_; rintro e w' ⟨rfl, nn, os, rfl⟩)
    go_ret
    exact ⟨_, rfl, ownsRow_sortedI (sortQ_len zs) hbase hgb r1 r2 r3, hnil, hb.grown (grownBy_sortedI _) hb.size (fun j hj => by cases hj; exact hbase)⟩
set_option maxRecDepth 100000 in
set_option maxHeartbeats 2000000 in
theorem twice_in (F : Fence) (hF : F = Fence.wide) (n : Nat) (hn : 8 ≤ n) (zs : List Int) (hreach : zs.length * 8 ≤ 140737488351232) (w : World) (sv : Value) (hI : Ints w.heap.size w sv zs) :
    CallsIn F n Try.prog 46 #[sv] w fun e W' => e = .returned (.bool (decide (¬ zs.Nodup))) ∧ Below w.heap.size w W' := by
  have hro : F.round = none := by subst hF; rfl
  have hw : ∀ {m : Nat} {f : FuncId} {args : Array Value} {w : World} {R : Ending → World → Prop}, Calls Try.prog f args w R → CallsIn F m Try.prog f args w R := by subst hF; exact callsIn_wide.2
  have g1 : F.fn 60 := by subst hF; trivial
  have g2 : F.fn 59 := by subst hF; trivial
  have g3 : F.fn 61 := by subst hF; trivial
  have g4 : F.fn 46 := by subst hF; trivial
  have hso := sorted_in F hF (n - 1) (by omega)
  clear hF
  have h1 : 1 ≤ n := by omega
  have htw := twice_iff zs
  have hcl := cpt_le (sortQ zs)
  have hsl := sortQ_len zs
  have hd : decide (((cpt (sortQ zs)).length : Int) < (zs.length : Int)) = decide (¬ zs.Nodup) := by
    rw [decide_eq_decide, ← htw]; omega
  obtain ⟨A, cap0, rfl, hA⟩ := hI
  refine callsIn_of_wp Try.func46 rfl g4 ?_ hro
  simp only [show Try.f46.ntmps = 13 from rfl, List.size_toArray, List.length_cons, List.length_nil, Nat.reduceAdd, Nat.reduceSub, Array.replicate_succ, Array.replicate_zero, List.push_toArray, List.append_toArray, List.nil_append, List.cons_append]
  have hB0 : Below w.heap.size w (w.alloc (.cells #[.slice A zs.length cap0] 22)) := (Below.refl _ w).alloc (Nat.le_refl _) _
  have bN := Boxed.new w 22 (.slice A zs.length cap0)
  have hI1 : Ints w.heap.size w (.slice A zs.length cap0) zs := ⟨A, cap0, rfl, hA⟩
  have hI2 : Ints (w.alloc (.cells #[.slice A zs.length cap0] 22)).heap.size (w.alloc (.cells #[.slice A zs.length cap0] 22)) (.slice A zs.length cap0) zs := by
    obtain ⟨a, c, e, q⟩ := hI1.below hB0
    refine ⟨a, c, e, q.imp id ?_⟩
    rintro ⟨b, off, e2, hb, hc⟩
    exact ⟨b, off, e2, by simp; omega, hc⟩
  gi_wp2_with (first
    | (gi_at_call 60; refine (values_in F (n - 1) g1 hro _ _ _ _).mono ?_; rintro e w' ⟨rfl, rfl⟩)
    | (gi_at_call 59; refine (hso w.heap.size _ zs hreach _ (by simp) bN.cell hI2).mono ?_; rintro e W ⟨v, rfl, hrow, hnil, hb⟩))
  have hb2 : Below w.heap.size w W := hB0.trans (hb.mono (by simp))
  rcases hrow.2 with ⟨rfl, hz⟩ | ⟨g, cap, cur, rfl, hbase, hgb, r1, r2, r3, r4⟩
  · have hss : zs = [] := List.eq_nil_of_length_eq_zero hz
    subst hss
    gi_wp2_with (gi_at_call 61; refine (hw (comp_ok.none none 0 W)).mono ?_; rintro e w' ⟨rfl, rfl⟩)
    go_ret
    exact ⟨by simp, hb2⟩
  · have hH : Sort.Holds (Value.int .i64) W g 0 (sortQ zs).toArray := holds_of_blockI hgb (by rw [sortQ_len]; simpa using r4)
    have cc := comp_ok.some g 0 cap (sortQ zs) W hH (by omega) (by omega)
    rw [hsl] at cc
    gi_wp2_with (gi_at_call 61; refine (hw cc).mono ?_; rintro e w' ⟨rfl, q, rfl⟩)
    go_ret
    refine ⟨?_, ?_⟩
    · simp
    · have := grownBy_sortedI (w := W) (g := g) (n := q) (os := #[]) (cpt (sortQ zs) ++ List.replicate (zs.length - (cpt (sortQ zs)).length) 0).toArray
      rw [Sort.grow_empty] at this
      exact hb2.grown this hb2.size (fun j hj => by cases hj; simp at hbase; omega)
/-- What a slice of trees says of the memory. -/
theorem ints_of {w : World} {F : Nat → Prop} (hF : ∀ b, F b → b < w.heap.size) {b : Bool} {cap : Option Nat} {l : List Int} {u : Value} (h : RT ⟨w, F, w.heap.size, fun _ => none⟩ (SL b cap l.length (ints l)) u) : Ints w.heap.size w u l := by
  have rd : ∀ (l : List Int) (b o : Nat), RCs w F b o (ints l) → ∀ j, j < l.length → w.cell? ⟨b, o + j, none⟩ = some (.int .i64 (l[j]?.getD 0)) := by
    intro l
    induction l with
    | nil => intro b o _ j hj; simp at hj
    | cons x l ih =>
      intro b o h j hj
      simp only [ints, List.map_cons, RCs, RC] at h
      obtain ⟨⟨u, h1, rfl, _⟩, h2⟩ := h
      cases j with
      | zero => simpa using h1
      | succ j =>
        have := ih b (o + 1) h2 j (by simpa using hj)
        rw [show o + (j + 1) = o + 1 + j by omega]
        simpa using this
  cases b with
  | true =>
    simp only [SL, RT, RC] at h
    obtain ⟨A, c, rfl, _, _, q⟩ := h
    refine ⟨A, c, rfl, q.imp (fun q => List.length_eq_zero_iff.1 q.1) ?_⟩
    rintro ⟨b, o, rfl, hb, hc⟩
    exact ⟨b, o, rfl, hF b hb, rd l b o hc⟩
  | false =>
    simp only [SL, RT] at h
    obtain ⟨A, c, rfl, _, _, q⟩ := h
    refine ⟨A, c, rfl, q.imp (fun q => List.length_eq_zero_iff.1 q.1) ?_⟩
    rintro ⟨b, o, rfl, hb, hc⟩
    exact ⟨b, o, rfl, hb, rd l b o hc⟩
theorem twice_R (b : Bool) (cap : Option Nat) (l : List Int) (h : (l.length : Int) * 8 ≤ 140737488351232) : CallsR E0.P 46 [SL b cap l.length (ints l)] (B (decide (¬ l.Nodup)), []) := by
  refine ⟨⟨_, Try.func46, by kernel_rfl, by kernel_rfl⟩, fun w F us hF hr => ?_⟩
  simp only [RTs] at hr
  obtain ⟨u, vs, rfl, hu, rfl⟩ := hr
  refine (callsIn_wide.1 (twice_in Fence.wide rfl 8 (Nat.le_refl _) l (by omega) w u (ints_of hF hu))).mono ?_
  rintro e w' ⟨rfl, hb⟩
  refine ⟨_, rfl, hb, ?_⟩
  exact ⟨F, fun _ => none, fun _ h => h, fun b h => .inl h, fun n base σ _ => by simp only [lift, liftC, RT, RC, flat]; trivial, fun k l h => by simp at h, fun i j b sh sh' h => by simp at h⟩
end Go.Proofs.Ytochkebkfoophaa.Tw
