/- GuardOnes in plain numbers: a nest of one loop is that loop. -/
import Derived.Test.YtopnopepcpepbaaGuardAwake
import Derived.Test.YtopnopepcpepbaaPGx10
import Derived.Test.YtopnopepcpepbaaPGx17
import Derived.Test.YtopnopepcpepbaaPGx18
import Derived.Test.YtopnopepcpepbaaPGx19
import Derived.Test.YtopnopepcpepbaaPGx20
import Derived.Test.YtopnopepcpepbaaPGx21
set_option linter.unusedVariables false
namespace Go.Proofs.Ytopnopepcpepbaa.Pure
open Go.RowKit Go.Proofs.YtopnopepcpepbaaW.PrintWords Go.Proofs.YtopnopepcpepbaaW.PrintMore Go.Proofs.Ytopnopepcpepbaa.PG Go.Proofs.Ytopnopepcpepbaa.Ar

theorem cf_step (lo hi st : Int) (k : Nat) (hk : 3 ≤ k) : slices_ContainsFunc_46_g47.f k [(⟨lo, hi, st⟩ : S25)] = some (decide (st = 0)) := by
  obtain ⟨k, rfl⟩ : ∃ m, k = m + 2 := ⟨k - 2, by omega⟩
  unfold slices_ContainsFunc_46_g47.f slices_IndexFunc_51_g47.f
  simp only [slices_IndexFunc_51_g47.l0, guard_nest_1.f]
  have w : wrap64 1 = 1 := w64 (by omega) (by omega)
  by_cases h : st = 0
  · subst h
    have e : (rd_T25 [(⟨lo, hi, 0⟩ : S25)] 0).f2 = 0 := rfl
    simp [e]
  · have e : (rd_T25 [(⟨lo, hi, st⟩ : S25)] 0).f2 = st := rfl
    simp [e, h, w]

theorem near_split (a b c d : Int) : allNear [a, b, c, d] = (allNear [a] && allNear [b, c, d]) := by
  unfold allNear
  rw [Bool.eq_iff_iff, Bool.and_eq_true, decide_eq_true_eq, decide_eq_true_eq, decide_eq_true_eq]
  simp only [List.forall_mem_cons]
  constructor
  · rintro ⟨h1, h2⟩
    exact ⟨⟨h1, by simp⟩, h2⟩
  · rintro ⟨⟨h1, _⟩, h2⟩
    exact ⟨h1, h2⟩

def nestE (a b lo hi st low high : Int) : Int := if askE lo hi st [a, b, low, high] = 0 ∧ cnt lo hi st > 2000 then 2 else askE lo hi st [a, b, low, high]

theorem nest_one (a b lo hi st low high : Int) (k : Nat) (hk : 300 ≤ k) : guard_nest.f k [(⟨lo, hi, st⟩ : S25)] [a] [b, low, high] = some (nestE a b lo hi st low high) := by
  unfold guard_nest.f nestE
  rw [cf_step lo hi st k (by omega), isNumber_f [a] (by simp) k (by simp; omega), isNumber_f [b, low, high] (by simp) k (by simp; omega)]
  simp only [Option.bind_some, List.length_cons, List.length_nil]
  obtain ⟨k, rfl⟩ : ∃ m, k = m + 3 := ⟨k - 3, by omega⟩
  have hT : guard_nest.j0 (k + 2 + 1) [(⟨lo, hi, st⟩ : S25)] true = some 2 := by rw [guard_nest.j0, if_pos rfl]
  unfold askE
  by_cases hs : st = 0
  · rw [decide_eq_true hs, if_pos rfl, if_pos hs, if_neg (by omega)]
  · rw [decide_eq_false hs, if_neg (by decide), if_neg (show ¬ (((0 + 1 : Nat)) : Int) < 1 by decide), if_neg (show ¬ (((0 + 1 : Nat)) : Int) > 3 by decide), if_pos trivial, if_neg hs, near_split]
    by_cases ha : allNear [a] = true
    · rw [ha, if_pos rfl]
      by_cases hb : allNear [b, low, high] = true
      · rw [hb]
        have e : rd_T25 [(⟨lo, hi, st⟩ : S25)] 0 = ⟨lo, hi, st⟩ := rfl
        have w : wrap64 (0 + 1) = 1 := w64 (by omega) (by omega)
        simp only [Bool.not_true, Bool.and_self, and_true]
        rw [show k + 3 = (k + 2) + 1 from rfl, guard_nest.j0, if_neg (by decide), guard_nest.l0, if_pos (by simp), if_pos (by omega), if_pos (by simp), e]
        dsimp only
        rw [isNumber_f [lo, hi, st] (by simp) _ (by simp; omega)]
        simp only [Option.bind_some]
        by_cases hn : allNear [lo, hi, st] = true
        · have hn' : askE lo hi st [] = 0 := by unfold askE; rw [if_neg hs, if_pos ⟨hn, by simp [allNear]⟩]
          obtain ⟨_, n1, n2, n3, _⟩ := askE_ok hn'
          have hc := cnt_nonneg lo hi st
          rw [if_pos hn, turns_g hs n1 n2 n3]
          simp only [Option.bind_some, if_pos hn]
          rw [w, guard_nest.l0, if_neg (by simp)]
          by_cases hq : cnt lo hi st > 2000
          · have m : mn (cnt lo hi st) 2001 = 2001 := by unfold mn; split <;> omega
            rw [m, w64 (x := 1 * 2001) (by omega) (by omega), if_pos (by omega), if_pos ⟨trivial, hq⟩]
          · have m : mn (cnt lo hi st) 2001 = cnt lo hi st := by unfold mn; split <;> omega
            rw [m, Int.one_mul, w64 (x := cnt lo hi st) (by omega) (by omega), if_neg (by omega), if_neg (fun hx => hq hx.2)]
        · rw [if_neg hn, if_neg hn, if_neg (by omega)]
      · rw [Bool.not_eq_true] at hb
        rw [hb]
        simp only [Bool.not_false, Bool.and_false]
        rw [show k + 3 = k + 2 + 1 from rfl, hT]
        simp
    · rw [if_neg ha, show k + 3 = k + 2 + 1 from rfl, hT]
      rw [Bool.not_eq_true] at ha
      rw [ha]
      simp

theorem first_char {a b lo st low high n f t : Int} (h : PartSpec a b lo st low high n f t) (hn : 0 ≤ n) :
    (firstOf n f t = -1 ∧ ∀ m, 0 ≤ m → m < n → (low ≤ val a b lo st m ∧ val a b lo st m ≤ high)) ∨
    (0 ≤ firstOf n f t ∧ firstOf n f t < n ∧ ¬ (low ≤ val a b lo st (firstOf n f t) ∧ val a b lo st (firstOf n f t) ≤ high) ∧ ∀ m, 0 ≤ m → m < firstOf n f t → (low ≤ val a b lo st m ∧ val a b lo st m ≤ high)) := by
  have a1 := h.f0; have a2 := h.tn; have a3 := h.ft
  unfold firstOf
  split
  · right
    refine ⟨by omega, by omega, ?_, fun m h0 h1 => by omega⟩
    rw [h.iff 0 (by omega) (by omega)]
    omega
  · split
    · right
      refine ⟨by omega, by omega, ?_, fun m h0 h1 => (h.iff m h0 (by omega)).2 (by omega)⟩
      rw [h.iff t (by omega) (by omega)]
      omega
    · left
      exact ⟨rfl, fun m h0 h1 => (h.iff m h0 h1).2 (by omega)⟩

theorem nest_loop {a b lo hi st low high r : Int} (hs : st ≠ 0) (n1 : near lo) (n2 : near hi) (n3 : near st) (n4 : near a) (n5 : near b) (hc : cnt lo hi st ≤ 2000)
    (hr : (r = -1 ∧ ∀ m, 0 ≤ m → m < cnt lo hi st → (low ≤ val a b lo st m ∧ val a b lo st m ≤ high)) ∨
      (0 ≤ r ∧ r < cnt lo hi st ∧ ¬ (low ≤ val a b lo st r ∧ val a b lo st r ≤ high) ∧ ∀ m, 0 ≤ m → m < r → (low ≤ val a b lo st m ∧ val a b lo st m ≤ high))) :
    ∀ (d k : Nat) (m : Int), 0 ≤ m → m + d = cnt lo hi st → (0 ≤ r → m ≤ r) →
    guard_FirstNest.l1 (k + 3 * d + 1) [(⟨lo, hi, st⟩ : S25)] [a] b low high (cnt lo hi st) m = some (if r < 0 then [] else [lo + r * st], 0) := by
  intro d
  induction d with
  | zero =>
    intro k m h0 h1 h2
    rw [guard_FirstNest.l1, if_neg (by omega), if_pos (by omega)]
  | succ d ih =>
    intro k m h0 h1 h2
    have e : rd_T25 [(⟨lo, hi, st⟩ : S25)] 0 = ⟨lo, hi, st⟩ := rfl
    have hm : Int.tmod m (cnt lo hi st) = m := Int.tmod_eq_of_lt h0 (by omega)
    unfold near at n1 n2 n3 n4 n5
    have b1 := mul_bd (a := m) (b := st) (A := 2000) (B := 1000000) (by omega) (by omega) (by omega) (by omega)
    have b2 := mul_bd (a := a) (b := lo + m * st) (A := 1000000) (B := 2001000000) (by omega) (by omega) (by omega) (by omega)
    have r1 : ∀ x : Int, rd [x] 0 = x := fun _ => rfl
    rw [show k + 3 * (d + 1) + 1 = (k + 3 * d + 1) + 1 + 1 + 1 from by omega, guard_FirstNest.l1, if_pos (by omega), if_pos (by simp), if_pos (by simp), guard_FirstNest.l2]
    simp only [List.length_cons, List.length_nil]
    rw [show wrap64 (((0 + 1 : Nat) : Int) - 1) = 0 from w64 (by omega) (by omega), if_pos (by omega), if_pos (by omega), if_pos (by omega), e]
    dsimp only
    rw [turns_g hs n1 n2 n3]
    simp only [Option.bind_some]
    rw [if_neg (by omega), hm, w64 (x := m * st) (by omega) (by omega), w64 (x := lo + m * st) (by omega) (by omega)]
    simp only [show (((0 + 1 : Nat) : Int)).toNat = 1 from rfl, List.replicate_one, List.length_cons, List.length_nil, Int.toNat_zero, List.set_cons_zero, r1]
    rw [if_pos (by omega), if_pos (by omega), w64 (x := a * (lo + m * st)) (by omega) (by omega), w64 (x := b + a * (lo + m * st)) (by omega) (by omega), w64 (x := (0 : Int) - 1) (by omega) (by omega), guard_FirstNest.l2, if_neg (by omega)]
    have hv : b + a * (lo + m * st) = val a b lo st m := by unfold val; omega
    rw [hv, w64 (x := m + 1) (by omega) (by omega)]
    by_cases hq : low ≤ val a b lo st m ∧ val a b lo st m ≤ high
    · have hne : r ≠ m := by
        rintro rfl
        rcases hr with hr | hr
        · omega
        · exact hr.2.2.1 hq
      rw [if_neg (by omega), if_neg (by omega)]
      exact ih k (m + 1) (by omega) (by omega) (fun h => by have := h2 h; omega)
    · have he : r = m := by
        rcases hr with hr | hr
        · exact absurd (hr.2 m h0 (by omega)) hq
        · have := h2 hr.1
          refine Decidable.byContradiction fun hc => hq (hr.2.2.2 m h0 (by omega))
      rw [he, if_neg (show ¬ m < 0 by omega)]
      by_cases hl : val a b lo st m < low
      · rw [if_pos hl]
      · rw [if_neg hl, if_pos (by omega)]

theorem GuardOnes : ∀ (x0 : S23) (x1 : S25), (((Lit.int .i64 x0.f0).wf = true) ∧ ((Lit.int .i64 x0.f1).wf = true) ∧ ((Lit.int .i64 x0.f2).wf = true) ∧ ((Lit.int .i64 x0.f3).wf = true)) → (((Lit.int .i64 x1.f0).wf = true) ∧ ((Lit.int .i64 x1.f1).wf = true) ∧ ((Lit.int .i64 x1.f2).wf = true)) → ∃ k, quadratlaw22_GuardOnes.f k (x0.f0) (x0.f1) (x0.f2) (x0.f3) (x1.f0) (x1.f1) (x1.f2) = some true := by
  intro x t _ _
  obtain ⟨a, b, low, high⟩ := x
  obtain ⟨lo, hi, st⟩ := t
  refine ⟨7000000, ?_⟩
  show quadratlaw22_GuardOnes.f 7000000 a b low high lo hi st = some true
  obtain ⟨r, e, g1, _, g3, g4, g5⟩ := first_both a b lo hi st low high 7000000 (Nat.le_refl _)
  have hA : (quadratlaw22_Awake.f 6999999).bind (fun t => some t) = some true := by rw [awake 6999999 (by omega)]; rfl
  unfold quadratlaw22_GuardOnes.f guard_FirstNest.f
  rw [g1, nest_one a b lo hi st low high _ (by omega)]
  simp only [Option.bind_some]
  have hJ : ∀ l e', (e = 0 ∨ e' = e) → quadratlaw22_GuardOnes.j0 (6999999 + 1) l e' r e true lo hi st = some true := by
    intro l e' he
    rw [quadratlaw22_GuardOnes.j0, if_pos rfl, hA]
    by_cases h0 : e = 0
    · rw [if_pos h0]
    · rw [if_neg h0, if_pos (by omega)]
  by_cases hz : nestE a b lo hi st low high = 0
  · have he : e = 0 := by
      rw [g3]
      unfold nestE at hz
      split at hz
      · omega
      · exact hz
    have hc : cnt lo hi st ≤ 2000 := by
      unfold nestE at hz
      split at hz
      · omega
      · next hq =>
        refine Decidable.byContradiction fun hx => hq ⟨hz, by omega⟩
    obtain ⟨hs, n1, n2, n3, n4, n5, _⟩ := ask4 (g3.symm.trans he)
    obtain ⟨f, t, _, hp, hr⟩ := g4 he
    have hn := cnt_nonneg lo hi st
    have ch := first_char hp hn
    rw [← hr] at ch
    have e25 : rd_T25 [(⟨lo, hi, st⟩ : S25)] 0 = ⟨lo, hi, st⟩ := rfl
    have L := nest_loop hs n1 n2 n3 n4 n5 hc ch (cnt lo hi st).toNat (6999997 - 3 * (cnt lo hi st).toNat) 0 (by omega) (by omega) (fun h => h)
    rw [if_pos hz, show (7000000 : Nat) = 6999998 + 1 + 1 from rfl, guard_FirstNest.l0, if_pos (by simp), if_pos (by omega), if_pos (by simp), e25]
    dsimp only
    rw [turns_g hs n1 n2 n3]
    simp only [Option.bind_some]
    rw [Int.one_mul, w64 (x := cnt lo hi st) (by omega) (by omega), w64 (x := (0 : Int) + 1) (by omega) (by omega), guard_FirstNest.l0, if_neg (by simp), show (6999998 : Nat) = 6999997 - 3 * (cnt lo hi st).toNat + 3 * (cnt lo hi st).toNat + 1 from by omega, L]
    simp only [Option.bind_some]
    rw [if_pos trivial, show (6999997 - 3 * (cnt lo hi st).toNat + 3 * (cnt lo hi st).toNat + 1 + 1 + 1 : Nat) = 6999999 + 1 from by omega, he, bne_self_eq_false, quadratlaw22_GuardOnes.j0, if_neg (by decide), hA]
    by_cases h0 : r < 0
    · rw [if_pos h0, if_pos h0, if_pos (by simp)]
    · have b0 : r < cnt lo hi st := by rcases ch with ch | ch <;> omega
      unfold near at n1 n2 n3
      have b1 := mul_bd (a := r) (b := st) (A := 2000) (B := 1000000) (by omega) (by omega) (by omega) (by omega)
      rw [if_neg h0, if_neg h0, if_pos (by simp), if_pos (by simp), w64 (x := r * st) (by omega) (by omega), w64 (x := lo + r * st) (by omega) (by omega), if_pos (show rd [lo + r * st] 0 = lo + r * st from rfl)]
  · rw [if_neg hz]
    simp only [Option.bind_some]
    rw [if_neg hz]
    refine hJ _ _ ?_
    unfold nestE at hz ⊢
    split
    · next hq => exact .inl (g3.trans hq.1)
    · exact .inr g3.symm
end Go.Proofs.Ytopnopepcpepbaa.Pure
