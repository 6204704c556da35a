/- SectionCuts in plain numbers: what a section's descriptor is, and which subscript is out of its bounds. -/
import Derived.Test.YticjlkommabcjaaSecRefValid
import Derived.Test.YticjlkommabcjaaSecSame
import Derived.Test.YticjlkommabcjaaSecCount
import Derived.Test.YticjlkommabcjaaPSx1
import Derived.Test.YticjlkommabcjaaPSx6
import Derived.Test.YticjlkommabcjaaPSx7
import Derived.Test.YticjlkommabcjaaPSx14
import Derived.Test.YticjlkommabcjaaPSx15
import Derived.Test.YticjlkommabcjaaPSx16
import Derived.Test.YticjlkommabcjaaPSx17
set_option linter.unusedVariables false
namespace Go.Proofs.Yticjlkommabcjaa.Pure
open Go.RowKit Go.Proofs.YticjlkommabcjaaW.PrintWords Go.Proofs.YticjlkommabcjaaW.PrintMore Go.Proofs.Yticjlkommabcjaa.PS Go.Proofs.Yticjlkommabcjaa.Ar

/-- From some round on. -/
def Lt {α : Type} (g : Nat → Option α) (r : α) : Prop := ∃ K, ∀ k, K ≤ k → g k = some r
theorem Lt.step {α : Type} {g h : Nat → Option α} {r : α} (n m : Nat) (hh : Lt h r) (e : ∀ k, m ≤ k → g (k + n) = h k) : Lt g r := by
  obtain ⟨K, hK⟩ := hh
  exact ⟨K + m + n, fun k hk => by rw [show k = (k - n) + n from by omega, e _ (by omega), hK _ (by omega)]⟩
theorem Lt.now {α : Type} {g : Nat → Option α} {r : α} (n m : Nat) (e : ∀ k, m ≤ k → g (k + n) = some r) : Lt g r :=
  ⟨m + n, fun k hk => by rw [show k = (k - n) + n from by omega, e _ (by omega)]⟩

abbrev Ds := Int × List Int × List Int × Int

/-- The document's step: what follows the bounds' test. -/
theorem rstep (b : Int) (E S : List Int) (hE : exts E ∧ prod E ≤ 4000) (x1 : List S58) (i : Int) (h0 : 0 ≤ i) (h1 : i < x1.length) (hiE : i < E.length) (hiS : i < S.length) (hx : x1.length ≤ 3)
    (lo n step br : Int) (E' S' : List Int) (hl1 : E'.length ≤ 3) (hl2 : S'.length ≤ 3) (k : Nat) (hk : 30 ≤ k) :
    quadratref06_Cut.j4 (k + 3) x1 i lo n step false b E S br E' S' =
      if (rd_T58 x1 i).f0 = true then quadratref06_Cut.l1 k x1 (i + 1) b E S (if n > 0 ∧ prod E > 0 then wrap64 (br + wrap64 (lo * rd S i)) else br) E' S'
      else quadratref06_Cut.l1 k x1 (i + 1) b E S (if n > 0 ∧ prod E > 0 then wrap64 (br + wrap64 (lo * rd S i)) else br) (E' ++ [n]) (S' ++ [if n < 2 then wrap64 (1 * rd S i) else wrap64 (step * rd S i)]) := by
  have hs : sizeOf' E = prod E := by unfold sizeOf'; rw [if_pos hE]
  have j6 : ∀ br', quadratref06_Cut.j6 (k + 1) x1 i n step b E S br' E' S' = if (rd_T58 x1 i).f0 = true then quadratref06_Cut.l1 k x1 (i + 1) b E S br' E' S'
      else quadratref06_Cut.l1 k x1 (i + 1) b E S br' (E' ++ [n]) (S' ++ [if n < 2 then wrap64 (1 * rd S i) else wrap64 (step * rd S i)]) := by
    intro br'
    rw [quadratref06_Cut.j6, w64 (x := i + 1) (by omega) (by omega)]
    simp only [if_pos h0, if_pos h1, if_pos hiS, Option.bind_some, List.length_cons, List.length_nil, if_pos (show E'.length + (0 + 1) < 17592186044416 by omega), if_pos (show S'.length + (0 + 1) < 17592186044416 by omega)]
    by_cases hi : (rd_T58 x1 i).f0 = true
    · rw [if_pos hi, if_pos hi]
    · rw [if_neg hi, if_neg hi]
      by_cases hn : n < 2
      · rw [if_pos hn, if_pos hn]
      · rw [if_neg hn, if_neg hn]
  rw [show k + 3 = (k + 1 + 1) + 1 from rfl, quadratref06_Cut.j4, if_neg (by decide)]
  by_cases hn : n > 0
  · rw [if_pos hn, size_r E _ (by omega), hs]
    simp only [Option.bind_some]
    rw [quadratref06_Cut.j5]
    by_cases hp : prod E > 0
    · rw [decide_eq_true hp, if_pos rfl, if_pos h0, if_pos hiS, j6, if_pos (show n > 0 ∧ prod E > 0 from ⟨hn, hp⟩)]
    · rw [decide_eq_false hp, if_neg (by decide), j6, if_neg (show ¬ (n > 0 ∧ prod E > 0) from fun h => hp h.2)]
  · rw [if_neg hn, quadratref06_Cut.j5, if_neg (by decide), j6, if_neg (show ¬ (n > 0 ∧ prod E > 0) from fun h => hn h.1)]
theorem rbad (b : Int) (E S : List Int) (x1 : List S58) (i lo n step br : Int) (E' S' : List Int) (k : Nat) : quadratref06_Cut.j4 (k + 1) x1 i lo n step true b E S br E' S' = some (0, [], [], 92) := by
  rw [quadratref06_Cut.j4, if_pos rfl]
theorem rtest (b : Int) (E S : List Int) (x1 : List S58) (i : Int) (h0 : 0 ≤ i) (hiE : i < E.length) (lo n step br : Int) (E' S' : List Int) (k : Nat) (hn : n > 0) :
    quadratref06_Cut.j3 (k + 1) x1 i lo n step b E S br E' S' = quadratref06_Cut.j4 k x1 i lo n step (decide (lo < 0 ∨ lo ≥ rd E i ∨ wrap64 (lo + wrap64 (wrap64 (n - 1) * step)) < 0 ∨ wrap64 (lo + wrap64 (wrap64 (n - 1) * step)) ≥ rd E i)) b E S br E' S' := by
  rw [quadratref06_Cut.j3, if_pos hn]
  by_cases a1 : lo < 0
  · rw [if_pos a1, decide_eq_true (.inl a1)]
  · rw [if_neg a1, if_pos h0, if_pos hiE]
    by_cases a2 : lo ≥ rd E i
    · rw [if_pos a2, decide_eq_true (.inr (.inl a2))]
    · rw [if_neg a2]
      generalize wrap64 (lo + wrap64 (wrap64 (n - 1) * step)) = z
      by_cases a3 : z < 0
      · rw [if_pos a3, decide_eq_true (.inr (.inr (.inl a3)))]
      · rw [if_neg a3]
        by_cases a4 : z ≥ rd E i
        · rw [decide_eq_true a4, decide_eq_true (.inr (.inr (.inr a4)))]
        · rw [decide_eq_false a4, decide_eq_false (by omega)]

theorem cuts_loop {b : Int} {E S : List Int} (h : okD b E S) (x1 : List S58) (hx : x1.length = E.length)
    (hT : ∀ i : Int, 0 ≤ i → i < x1.length → (rd_T58 x1 i).f0 = false → okT (rd_T58 x1 i).f2.f0 (rd_T58 x1 i).f2.f1 (rd_T58 x1 i).f2.f2) : ∀ (d : Nat) (i bs br : Int) (E' S' : List Int), 0 ≤ i → i + d = x1.length → in64 bs →
    (prod E > 0 → bs = br) → (¬ prod E > 0 → br = b) → (E'.length : Int) ≤ i → (S'.length : Int) ≤ i →
    ∃ r : Ds, Lt (fun k => section_Cut.l1 k x1 x1.length i b E S bs E' S') r ∧ Lt (fun k => quadratref06_Cut.l1 k x1 i b E S br E' S') r ∧ r.2.1.length ≤ 3 ∧ r.2.2.1.length ≤ 3 := by
  have hE := h.1
  have hp := h.2.1
  have hS := h.2.2.1
  have hl := hE.1
  have hN := h.2.2.2.2.1
  have hs : sizeOf' E = prod E := by unfold sizeOf'; rw [if_pos ⟨hE, hp⟩]
  have hp0 : 0 ≤ prod E := by
    have := plcR_length (b := b) hS hE
    omega
  intro d
  induction d with
  | zero =>
    intro i bs br E' S' h0 h1 hb hbr hbb l1 l2
    refine ⟨(br, E', S', 0), Lt.now 1 30 fun k hk => ?_, Lt.now 1 0 fun k hk => ?_, by dsimp only; omega, by dsimp only; omega⟩
    · rw [section_Cut.l1, if_neg (by omega), size_f E _ (by omega), hs]
      simp only [Option.bind_some]
      by_cases hz : prod E = 0
      · rw [if_pos hz, hbb (by omega)]
      · rw [if_neg hz, hbr (by omega)]
    · rw [quadratref06_Cut.l1, if_neg (by omega)]
  | succ d ih =>
    intro i bs br E' S' h0 h1 hb hbr hbb l1 l2
    have q1 : i < (x1.length : Int) := by omega
    have q2 : i < (E.length : Int) := by omega
    have q3 : i < (S.length : Int) := by omega
    obtain ⟨e0, e1⟩ := hE.2 _ (rd_mem h0 q2)
    have hn := hN _ (rd_mem (l := S) h0 q3)
    unfold nearS at hn
    by_cases hi : (rd_T58 x1 i).f0 = true
    · -- one subscript
      by_cases hbad : (rd_T58 x1 i).f1 < 0 ∨ (rd_T58 x1 i).f1 ≥ rd E i
      · refine ⟨(0, [], [], 92), Lt.now 1 0 fun k hk => ?_, Lt.now 3 0 fun k hk => ?_, by simp, by simp⟩
        · rw [section_Cut.l1]
          simp only [if_pos q1, if_pos h0, if_pos q2, if_pos hi, w64 (x := rd E i - 1) (by omega) (by omega)]
          by_cases a1 : (rd_T58 x1 i).f1 < 0
          · rw [if_pos a1]
          · rw [if_neg a1, if_pos (by omega)]
        · rw [show k + 3 = (k + 1 + 1) + 1 from rfl, quadratref06_Cut.l1]
          simp only [if_pos q1, if_pos h0, if_pos hi]
          rw [rtest b E S x1 i h0 q2 _ 1 1 br E' S' _ (by omega), decide_eq_true (by omega), rbad]
      · obtain ⟨r, a1, a2, a3, a4⟩ := ih (i + 1) (wrap64 (bs + wrap64 ((rd_T58 x1 i).f1 * rd S i))) (if (1 : Int) > 0 ∧ prod E > 0 then wrap64 (br + wrap64 ((rd_T58 x1 i).f1 * rd S i)) else br) E' S' (by omega) (by omega) (wrap_in _)
          (fun hq => by rw [if_pos ⟨by omega, hq⟩, hbr hq]) (fun hq => by rw [if_neg (fun hc => hq hc.2), hbb hq]) (by omega) (by omega)
        refine ⟨r, a1.step 1 0 fun k hk => ?_, a2.step 5 30 fun k hk => ?_, a3, a4⟩
        · rw [section_Cut.l1]
          simp only [if_pos q1, if_pos h0, if_pos q2, if_pos q3, if_pos hi, w64 (x := rd E i - 1) (by omega) (by omega), w64 (x := i + 1) (by omega) (by omega)]
          rw [if_neg (by omega), if_neg (by omega)]
        · rw [show k + 5 = ((k + 3) + 1) + 1 from rfl, quadratref06_Cut.l1]
          simp only [if_pos q1, if_pos h0, if_pos hi]
          rw [rtest b E S x1 i h0 q2 _ 1 1 br E' S' _ (by omega), show wrap64 ((rd_T58 x1 i).f1 + wrap64 (wrap64 (1 - 1) * 1)) = (rd_T58 x1 i).f1 from by
            rw [w64 (x := (1 : Int) - 1) (by omega) (by omega), w64 (x := ((1 : Int) - 1) * 1) (by omega) (by omega), w64 (by omega) (by omega)]; omega,
            decide_eq_false (by omega), rstep b E S ⟨hE, hp⟩ x1 i h0 q1 q2 q3 (by omega) _ 1 1 br E' S' (by omega) (by omega) k hk, if_pos hi]
    · -- a triple
      have hi' : (rd_T58 x1 i).f0 = false := by simpa using hi
      have ht := hT i h0 q1 hi'
      have hst := cnt_step ht
      have hbd := cnt_bd ht
      obtain ⟨t1, t2, t3, t4⟩ := id ht
      generalize hlo : (rd_T58 x1 i).f2.f0 = lo at ht t1 hst hbd
      generalize hhi : (rd_T58 x1 i).f2.f1 = hi2 at ht t2 hst hbd
      generalize hsp : (rd_T58 x1 i).f2.f2 = sp at ht t3 t4 hst hbd
      generalize hc : cnt lo hi2 sp = n at hst hbd
      have cf : section_Count.f lo hi2 sp = some (n, 0) := by rw [count_f, if_pos ht, hc]
      have cr : quadratref06_count.f lo hi2 sp = some n := by rw [cnt_r ht, hc]
      have hw : wrap64 (lo + wrap64 (wrap64 (n - 1) * sp)) = lo + (n - 1) * sp := by
        rw [w64 (x := n - 1) (by omega) (by omega), w64 (x := (n - 1) * sp) (by omega) (by omega), w64 (by omega) (by omega)]
      by_cases hpn : n > 0
      · by_cases hbad : lo < 0 ∨ lo ≥ rd E i ∨ lo + (n - 1) * sp < 0 ∨ lo + (n - 1) * sp ≥ rd E i
        · refine ⟨(0, [], [], 92), Lt.now 1 0 fun k hk => ?_, Lt.now 3 0 fun k hk => ?_, by simp, by simp⟩
          · rw [section_Cut.l1]
            simp only [if_pos q1, if_pos h0, if_pos q2, if_neg hi, hlo, hhi, hsp, cf, Option.bind_some, if_pos hpn, hw, w64 (x := rd E i - 1) (by omega) (by omega)]
            by_cases a1 : mn lo (lo + (n - 1) * sp) < 0
            · rw [if_pos a1]
            · rw [if_neg a1, if_pos]
              unfold mn at a1
              unfold mx
              split at a1 <;> split <;> omega
          · rw [show k + 3 = (k + 1 + 1) + 1 from rfl, quadratref06_Cut.l1]
            simp only [if_pos q1, if_pos h0, if_neg hi, hlo, hhi, hsp, cr, Option.bind_some]
            rw [rtest b E S x1 i h0 q2 lo n sp br E' S' _ hpn, hw, decide_eq_true hbad, rbad]
        · obtain ⟨r, a1, a2, a3, a4⟩ := ih (i + 1) (wrap64 (bs + wrap64 (lo * rd S i))) (if n > 0 ∧ prod E > 0 then wrap64 (br + wrap64 (lo * rd S i)) else br) (E' ++ [n]) (S' ++ [if n < 2 then wrap64 (1 * rd S i) else wrap64 (sp * rd S i)]) (by omega) (by omega) (wrap_in _)
            (fun hq => by rw [if_pos ⟨hpn, hq⟩, hbr hq]) (fun hq => by rw [if_neg (fun hc => hq hc.2), hbb hq]) (by rw [List.length_append]; simp only [List.length_cons, List.length_nil]; omega) (by rw [List.length_append]; simp only [List.length_cons, List.length_nil]; omega)
          refine ⟨r, a1.step 2 0 fun k hk => ?_, a2.step 5 30 fun k hk => ?_, a3, a4⟩
          · rw [show k + 2 = (k + 1) + 1 from rfl, section_Cut.l1]
            simp only [if_pos q1, if_pos h0, if_pos q2, if_neg hi, hlo, hhi, hsp, cf, Option.bind_some, if_pos hpn, hw, w64 (x := rd E i - 1) (by omega) (by omega)]
            rw [if_neg (by unfold mn; split <;> omega), if_neg (by unfold mx; split <;> omega), section_Cut.j3]
            simp only [if_pos h0, if_pos q3, if_pos (show E'.length < 17592186044416 by omega), if_pos (show S'.length < 17592186044416 by omega), Option.bind_some, w64 (x := i + 1) (by omega) (by omega)]
            by_cases h2 : n < 2
            · rw [if_neg (show ¬ n > 1 by omega), if_pos h2, Int.one_mul, w64 (x := rd S i) (by omega) (by omega)]
            · rw [if_pos (show n > 1 by omega), if_neg h2, Int.mul_comm sp]
          · rw [show k + 5 = ((k + 3) + 1) + 1 from rfl, quadratref06_Cut.l1]
            simp only [if_pos q1, if_pos h0, if_neg hi, hlo, hhi, hsp, cr, Option.bind_some]
            rw [rtest b E S x1 i h0 q2 lo n sp br E' S' _ hpn, hw, decide_eq_false hbad, rstep b E S ⟨hE, hp⟩ x1 i h0 q1 q2 q3 (by omega) lo n sp br E' S' (by omega) (by omega) k hk, if_neg hi]
      · obtain ⟨r, a1, a2, a3, a4⟩ := ih (i + 1) bs (if n > 0 ∧ prod E > 0 then wrap64 (br + wrap64 (lo * rd S i)) else br) (E' ++ [n]) (S' ++ [if n < 2 then wrap64 (1 * rd S i) else wrap64 (sp * rd S i)]) (by omega) (by omega) hb
          (fun hq => by rw [if_neg (fun hc => hpn hc.1), hbr hq]) (fun hq => by rw [if_neg (fun hc => hq hc.2), hbb hq]) (by rw [List.length_append]; simp only [List.length_cons, List.length_nil]; omega) (by rw [List.length_append]; simp only [List.length_cons, List.length_nil]; omega)
        refine ⟨r, a1.step 2 0 fun k hk => ?_, a2.step 5 30 fun k hk => ?_, a3, a4⟩
        · unfold in64 at hb
          rw [show k + 2 = (k + 1) + 1 from rfl, section_Cut.l1]
          simp only [if_pos q1, if_pos h0, if_pos q2, if_neg hi, hlo, hhi, hsp, cf, Option.bind_some, if_neg hpn]
          rw [section_Cut.j3]
          simp only [if_pos h0, if_pos q3, if_pos (show E'.length < 17592186044416 by omega), if_pos (show S'.length < 17592186044416 by omega), Option.bind_some, w64 (x := i + 1) (by omega) (by omega)]
          rw [if_neg (show ¬ n > 1 by omega), if_pos (show n < 2 by omega), Int.one_mul, w64 (x := rd S i) (by omega) (by omega), Int.zero_mul, w64 (x := 0) (by omega) (by omega), Int.add_zero, w64 (x := bs) hb.1 hb.2]
        · rw [show k + 5 = ((k + 3) + 1) + 1 from rfl, quadratref06_Cut.l1]
          simp only [if_pos q1, if_pos h0, if_neg hi, hlo, hhi, hsp, cr, Option.bind_some]
          rw [quadratref06_Cut.j3, if_neg hpn, rstep b E S ⟨hE, hp⟩ x1 i h0 q1 q2 q3 (by omega) lo n sp br E' S' (by omega) (by omega) k hk, if_neg hi]

theorem cuts_scan {b : Int} {E S : List Int} (h : okD b E S) (hb : b ≤ 9223372036854775807) (x1 : List S58) (hx : x1.length = E.length) : ∀ (d : Nat) (i : Int), 0 ≤ i → i + d = x1.length →
    (∀ j : Int, 0 ≤ j → j < i → (rd_T58 x1 j).f0 = false → okT (rd_T58 x1 j).f2.f0 (rd_T58 x1 j).f2.f1 (rd_T58 x1 j).f2.f2) →
    ∃ r : Ds, Lt (fun k => section_Cut.l0 k x1 x1 x1.length i b E S) r ∧ Lt (fun k => quadratref06_Cut.l0 k x1 i b E S) r ∧ r.2.1.length ≤ 3 ∧ r.2.2.1.length ≤ 3 := by
  have hl := h.1.1
  have hb0 := h.2.2.2.1
  intro d
  induction d with
  | zero =>
    intro i h0 h1 hT
    obtain ⟨r, a1, a2, a3, a4⟩ := cuts_loop h x1 hx (fun j hj0 hj1 => hT j hj0 (by omega)) x1.length 0 b b [] [] (by omega) (by omega) (by unfold in64; omega) (fun _ => rfl) (fun _ => rfl) (by simp) (by simp)
    refine ⟨r, a1.step 1 0 fun k hk => ?_, a2.step 1 0 fun k hk => ?_, a3, a4⟩
    · rw [section_Cut.l0, if_neg (by omega)]
    · rw [quadratref06_Cut.l0, if_neg (by omega)]
  | succ d ih =>
    intro i h0 h1 hT
    have q1 : i < (x1.length : Int) := by omega
    by_cases hi : (rd_T58 x1 i).f0 = true
    · obtain ⟨r, a1, a2, a3, a4⟩ := ih (i + 1) (by omega) (by omega) (fun j hj0 hj1 hf => by
        by_cases e : j = i
        · rw [e, hi] at hf; cases hf
        · exact hT j hj0 (by omega) hf)
      refine ⟨r, a1.step 1 0 fun k hk => ?_, a2.step 1 0 fun k hk => ?_, a3, a4⟩
      · rw [section_Cut.l0, count_f]
        simp only [if_pos q1, if_pos h0, Option.bind_some, if_pos hi, w64 (x := i + 1) (by omega) (by omega)]
      · rw [quadratref06_Cut.l0]
        simp only [if_pos q1, if_pos h0, if_pos hi, w64 (x := i + 1) (by omega) (by omega)]
    · by_cases ht : okT (rd_T58 x1 i).f2.f0 (rd_T58 x1 i).f2.f1 (rd_T58 x1 i).f2.f2
      · obtain ⟨r, a1, a2, a3, a4⟩ := ih (i + 1) (by omega) (by omega) (fun j hj0 hj1 hf => by
          by_cases e : j = i
          · rw [e]; exact ht
          · exact hT j hj0 (by omega) hf)
        refine ⟨r, a1.step 1 0 fun k hk => ?_, a2.step 1 0 fun k hk => ?_, a3, a4⟩
        · rw [section_Cut.l0, count_f, if_pos ht]
          simp only [if_pos q1, if_pos h0, Option.bind_some, if_neg hi, if_true, w64 (x := i + 1) (by omega) (by omega)]
        · rw [quadratref06_Cut.l0, istriple_r, decide_eq_true ht]
          simp only [if_pos q1, if_pos h0, Option.bind_some, if_neg hi, if_true, w64 (x := i + 1) (by omega) (by omega)]
      · refine ⟨(0, [], [], 2), Lt.now 1 0 fun k hk => ?_, Lt.now 1 0 fun k hk => ?_, by simp, by simp⟩
        · rw [section_Cut.l0, count_f, if_neg ht]
          simp only [if_pos q1, if_pos h0, Option.bind_some, if_neg hi]
          rw [if_neg (by decide)]
        · rw [quadratref06_Cut.l0, istriple_r, decide_eq_false ht]
          simp only [if_pos q1, if_pos h0, Option.bind_some, if_neg hi]
          rw [if_neg (by decide)]

theorem same_desc2 (b : Int) (E S : List Int) (hE : E.length ≤ 3) (hS : S.length ≤ 3) (k : Nat) (hk : 10 ≤ k) : quadratref06_Same.f k b E S b E S = some true := by
  unfold quadratref06_Same.f
  rw [if_pos rfl, same_refl E (by omega) _ (by omega), same_refl S (by omega) _ (by omega)]
  rfl

theorem cuts_both (b : Int) (E S : List Int) (hb : b ≤ 9223372036854775807) (hSl : (S.length : Int) ≤ 9223372036854775806) (x1 : List S58) :
    ∃ r : Ds, Lt (fun k => section_Cut.f k b E S x1) r ∧ Lt (fun k => quadratref06_Cut.f k b E S x1) r ∧ r.2.1.length ≤ 3 ∧ r.2.2.1.length ≤ 3 := by
  by_cases h : okD b E S
  · by_cases hx : (x1.length : Int) = E.length
    · obtain ⟨r, a1, a2, a3, a4⟩ := cuts_scan h hb x1 (by omega) x1.length 0 (by omega) (by omega) (fun j _ _ => by omega)
      refine ⟨r, a1.step 1 60 fun k hk => ?_, a2.step 1 60000 fun k hk => ?_, a3, a4⟩
      · unfold section_Cut.f
        rw [valid_f b E S hb hSl _ (by omega), decide_eq_true h]
        simp only [Option.bind_some, if_true]
        rw [bne_eq_false_iff_eq.2 hx, section_Cut.j0, if_neg (by decide)]
      · unfold quadratref06_Cut.f
        rw [valid_r b E S hb _ (by omega), decide_eq_true h]
        simp only [Option.bind_some, if_true]
        rw [bne_eq_false_iff_eq.2 hx, quadratref06_Cut.j0, if_neg (by decide)]
    · refine ⟨(0, [], [], 2), Lt.now 1 60 fun k hk => ?_, Lt.now 1 60000 fun k hk => ?_, by simp, by simp⟩
      · unfold section_Cut.f
        rw [valid_f b E S hb hSl _ (by omega), decide_eq_true h]
        simp only [Option.bind_some, if_true]
        rw [bne_iff_ne.2 hx, section_Cut.j0, if_pos rfl]
      · unfold quadratref06_Cut.f
        rw [valid_r b E S hb _ (by omega), decide_eq_true h]
        simp only [Option.bind_some, if_true]
        rw [bne_iff_ne.2 hx, quadratref06_Cut.j0, if_pos rfl]
  · refine ⟨(0, [], [], 2), Lt.now 1 60 fun k hk => ?_, Lt.now 1 60000 fun k hk => ?_, by simp, by simp⟩
    · unfold section_Cut.f
      rw [valid_f b E S hb hSl _ (by omega), decide_eq_false h]
      simp only [Option.bind_some, Bool.false_eq_true, if_false]
      rw [section_Cut.j0, if_pos rfl]
    · unfold quadratref06_Cut.f
      rw [valid_r b E S hb _ (by omega), decide_eq_false h]
      simp only [Option.bind_some, Bool.false_eq_true, if_false]
      rw [quadratref06_Cut.j0, if_pos rfl]

theorem SectionCuts : ∀ (x0 : S31) (x1 : List (S58)), (((Lit.int .i64 x0.f0).wf = true) ∧ (x0.f1.length * 8 ≤ 140737488351232 ∧ ∀ e0_ ∈ x0.f1, (Lit.int .i64 e0_).wf = true) ∧ (x0.f2.length * 8 ≤ 140737488351232 ∧ ∀ e0_ ∈ x0.f2, (Lit.int .i64 e0_).wf = true)) → (x1.length * 40 ≤ 140737488351232 ∧ ∀ e0_ ∈ x1, True ∧ ((Lit.int .i64 e0_.f1).wf = true) ∧ (((Lit.int .i64 e0_.f2.f0).wf = true) ∧ ((Lit.int .i64 e0_.f2.f1).wf = true) ∧ ((Lit.int .i64 e0_.f2.f2).wf = true))) → ∃ k, quadratlaw06_SectionCuts.f k (x0.f0) (x0.f1) (x0.f2) x1 = some true := by
  intro x0 x1 h0 h1
  obtain ⟨b, E, S⟩ := x0
  have hb := (i64_wf b).1 h0.1
  have hS := h0.2.2.1
  dsimp only at hS
  obtain ⟨r, ⟨K1, a1⟩, ⟨K2, a2⟩, a3, a4⟩ := cuts_both b E S (by omega) (by omega) x1
  refine ⟨K1 + K2 + 200, ?_⟩
  show quadratlaw06_SectionCuts.f (K1 + K2 + 200) b E S x1 = some true
  have a1 := a1 (K1 + K2 + 200) (by omega)
  have a2 := a2 (K1 + K2 + 200) (by omega)
  dsimp only at a1 a2
  unfold quadratlaw06_SectionCuts.f
  rw [a1, a2]
  simp only [Option.bind_some]
  rw [same_desc2 _ _ _ a3 a4 _ (by omega), awk_snd _ (by omega)]
  simp
end Go.Proofs.Yticjlkommabcjaa.Pure
