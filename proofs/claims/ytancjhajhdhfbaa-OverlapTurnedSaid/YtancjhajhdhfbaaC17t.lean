/- overlap.Distances, walked at the first layer; the second layer. -/
import Derived.Test.YtancjhajhdhfbaaC17r
namespace Go.Proofs.Ytancjhajhdhfbaa.Tev
open Go Go.RowKit Go.Proofs Go.Proofs.Ytancjhajhdhfbaa.Q
set_option linter.unusedSectionVars false
set_option maxRecDepth 100000
set_option maxHeartbeats 0
set_option linter.unusedSimpArgs false
set_option linter.unusedVariables false
noncomputable abbrev dBody : Code := codeOf Try.f14
noncomputable abbrev dA0 : Code := sA dBody
noncomputable abbrev dA1 : Code := sA (sB dBody)
noncomputable abbrev dA2 : Code := sA (sB (sB dBody))
noncomputable abbrev dA4 : Code := sA (sB (sB (sB dBody)))
noncomputable abbrev dA5 : Code := sA (sB (sB (sB (sB dBody))))
noncomputable abbrev dR10 : Code := sA (sB (sB (sB (sB (sB dBody)))))
noncomputable abbrev dR11 : Code := sA (sB (sB (sB (sB (sB (sB dBody))))))
theorem dBody_eq : dBody = .seq dA0 (.seq dA1 (.seq dA2 (.seq dA4 (.seq dA5 (.seq dR10 (.seq dR11 .ret)))))) := by kernel_rfl
theorem dR10_eq : dR10 = .region 10 #[opAt 0 dR10, opAt 1 dR10] false := by kernel_rfl
theorem dR11_eq : dR11 = .region 11 #[opAt 0 dR11, opAt 1 dR11, opAt 2 dR11, opAt 3 dR11] false := by kernel_rfl
theorem dGood : GoodC Try.f14.ntmps dBody dBody := ⟨fun b hb => hb, by kernel_rfl⟩
theorem dPieces : ∀ c ∈ [dA0, dA1, dA2, dA4, dA5], GoodC Try.f14.ntmps dBody c := by
  have h := dGood
  have h0 : GoodC Try.f14.ntmps dBody (.seq dA0 (.seq dA1 (.seq dA2 (.seq dA4 (.seq dA5 (.seq dR10 (.seq dR11 .ret))))))) := by rw [← dBody_eq]; exact h
  obtain ⟨g0, h1⟩ := good_seq h0
  obtain ⟨g1, h2⟩ := good_seq h1
  obtain ⟨g2, h3⟩ := good_seq h2
  obtain ⟨g3, h4⟩ := good_seq h3
  obtain ⟨g4, h5⟩ := good_seq h4
  intro c hc
  simp only [List.mem_cons, List.not_mem_nil, or_false] at hc
  rcases hc with rfl | rfl | rfl | rfl | rfl <;> assumption
def apartL (L : List PairI) : List Int := L.map fun z => z.2 - z.1
theorem pairCs_at : ∀ (L : List PairI) (i : Nat) (z : PairI), L[i]? = some z → (pairCs L)[i * 2]? = some (CI z.1) ∧ (pairCs L)[i * 2 + 1]? = some (CI z.2)
  | y :: L, 0, z, h => by simp only [List.getElem?_cons_zero, Option.some.injEq] at h; subst h; exact ⟨rfl, rfl⟩
  | y :: L, i + 1, z, h => by
    simp only [List.getElem?_cons_succ] at h
    obtain ⟨h1, h2⟩ := pairCs_at L i z h
    rw [show (i + 1) * 2 = i * 2 + 2 by omega]
    exact ⟨h1, h2⟩
section
variable (ar a : Int) (b1 b2 b3 : Bool) (c1 c2 c3 : Option Nat) (E S : List Int) (ar' b : Int) (S' : List Int)
theorem dist_loop (L : List PairI) (hLl : L.length ≤ 1000000) (hL : ∀ z ∈ L, -1000 ≤ z.1 ∧ z.1 ≤ 1000 ∧ -1000 ≤ z.2 ∧ z.2 ≤ 1000) : ∀ (r : List PairI) (i : Nat) (xs : List Int) (cp cq : Option Nat), L.drop i = r → xs.length + r.length ≤ 1000000 →
    ∃ cp', lp E0 pr1 14 6 ⟨[(10, .sl 0 0 xs.length 1 cp), (23, .sl 1 0 L.length 2 cq), (24, I L.length), (25, I i)], [(0, .arr (ints xs) 0 1), (1, .arr (pairCs L) 1 1)], 2⟩ =
      some (.exit 0, ⟨[(10, .sl 0 0 (xs ++ apartL r).length 1 cp')], [(0, .arr (ints (xs ++ apartL r)) 0 1)], 1⟩) := by
  intro r
  induction r with
  | nil =>
    intro i xs cp cq h1 h2
    have h5 := drop_nil h1
    have h6 : ¬ (i : Int) < L.length := by omega
    refine ⟨cp, ?_⟩
    rw [lp_eq lp14_6]
    simp (config := { maxSteps := 1000000 }) (disch := omega) only [push_cast, ↓reduceIte, Nat.reduceEqDiff, Nat.reduceAdd, Nat.reduceLT, Nat.reduceLeDiff, Nat.reduceBEq, Nat.reduceMul, Nat.reduceSub, Int.reduceToNat, Int.reduceEq, Int.reduceLT, Int.reduceLE, Int.reduceNeg, Int.reduceAdd, Int.reduceSub, Int.reduceMul, Try.f14, kr14, kp14_6, ow14_6, ty3, ty22, ty24, ty28, ty29, ty49, h6, apartL, List.map_nil, List.append_nil]
  | cons z r ih =>
    intro i xs cp cq h1 h2
    obtain ⟨g1, g2, g3⟩ := drop_cons h1
    have g8 : (i : Int) < L.length := by omega
    obtain ⟨hat, hat2⟩ := pairCs_at L i z g2
    simp only [List.length_cons] at h2
    have hz := hL z (List.mem_of_getElem? g2)
    obtain ⟨cp', ih'⟩ := ih (i + 1) (xs ++ [z.2 - z.1]) none cq g3 (by simp; omega)
    rw [List.append_assoc, show [z.2 - z.1] ++ apartL r = apartL (z :: r) from rfl] at ih'
    simp only [cast1, List.length_append, List.length_cons, List.length_nil, Nat.zero_add, Nat.add_zero, Int.natCast_zero, Int.natCast_add, Int.zero_add, ints_1, ints_0, ] at ih'
    have hw : IntKind.i64.wrap (z.2 - z.1) = z.2 - z.1 := w64 (by omega) (by omega)
    refine ⟨cp', ?_⟩
    rw [lp_eq lp14_6]
    simp (config := { maxSteps := 1000000 }) (disch := omega) only [push_cast, ↓reduceIte, Nat.reduceEqDiff, Nat.reduceAdd, Nat.reduceLT, Nat.reduceLeDiff, Nat.reduceBEq, Nat.reduceMul, Nat.reduceSub, Int.reduceToNat, Int.reduceEq, Int.reduceLT, Int.reduceLE, Int.reduceNeg, Int.reduceAdd, Int.reduceSub, Int.reduceMul, Try.f14, kr14, kp14_6, ow14_6, ty3, ty22, ty24, ty28, ty29, ty49, g1, g8, hat, hat2, hw, ih']
theorem meetL_len : (meetL ar a E S ar' b S').length ≤ 160000 := by
  unfold meetL
  split
  · unfold castP
    rw [List.length_map]
    exact pairs_len (placesR_le a E S) (placesR_le b E S')
  · simp
theorem meetL_bd : ∀ z ∈ meetL ar a E S ar' b S', 0 ≤ z.1 ∧ z.1 < 400 ∧ 0 ≤ z.2 ∧ z.2 < 400 := by
  intro z hz
  unfold meetL at hz
  split at hz
  · unfold castP at hz
    obtain ⟨y, hy, rfl⟩ := List.mem_map.1 hz
    have := pairs_bd (placesR_le a E S) (placesR_le b E S') hy
    simp only; omega
  · simp at hz
/-- How far apart, each once, in order. -/
def distL : List Int := setQ (apartL (meetL ar a E S ar' b S'))
noncomputable abbrev dS (xs : List Int) (cp : Option Nat) : St := ⟨[(10, .sl 0 0 xs.length 1 cp)], [(0, .arr (ints xs) 0 1)], 1⟩
theorem dist_first (h1 : (E.length : Int) ≤ 9223372036854775806) (h2 : (S.length : Int) ≤ 9223372036854775806) (h3 : (S'.length : Int) ≤ 9223372036854775806) (he : errRR a E S b S' = 0) : ∃ cp, exec E0 (lim E0 pr1) 14 .nor ([dA0, dA1, dA2, dA4, dA5].map It.code) ⟨params 0 [SL b1 c1 E.length (ints E), Rf ar a b2 c2 S, Rf ar' b b3 c3 S'], [], 0⟩ = some (.nor, dS (apartL (meetL ar a E S ar' b S')) cp) := by
  have hp := fun b0 b2 b3 c0 c2 c3 => s1_Pairs ar a b0 b2 b3 c0 c2 c3 E S ar' b S' h1 h2 h3
  unfold pairsRes at hp
  rw [he] at hp
  have hl := meetL_len ar a E S ar' b S'
  obtain ⟨cp, h6⟩ := dist_loop (meetL ar a E S ar' b S') (by omega) (fun z hz => by have := meetL_bd ar a E S ar' b S' z hz; omega) (meetL ar a E S ar' b S') 0 [] none none rfl (by simp; omega)
  simp only [cast1, List.length_append, List.length_cons, List.length_nil, Nat.zero_add, Nat.add_zero, Int.natCast_zero, Int.natCast_add, Int.zero_add, ints_1, ints_0, ] at h6
  simp only [List.nil_append] at h6
  refine ⟨cp, ?_⟩
  simp (config := { maxSteps := 1000000 }) (disch := omega) only [push_cast, ↓reduceIte, Nat.reduceEqDiff, Nat.reduceAdd, Nat.reduceLT, Nat.reduceLeDiff, Nat.reduceBEq, Nat.reduceMul, Nat.reduceSub, Int.reduceToNat, Int.reduceEq, Int.reduceLT, Int.reduceLE, Int.reduceNeg, Int.reduceAdd, Int.reduceSub, Int.reduceMul, Try.f14, kr14, kp14_6, ow14_6, ty3, ty22, ty24, ty28, ty29, ty49, dA0, dA1, dA2, dA4, dA5, dBody, codeOf, sA, sB, hp, ne_eq, List.map_cons, List.map_nil, h6]
theorem dist_walk (h1 : (E.length : Int) ≤ 9223372036854775806) (h2 : (S.length : Int) ≤ 9223372036854775806) (h3 : (S'.length : Int) ≤ 9223372036854775806) (he : errRR a E S b S' = 0) :
    CallsR E0.P 14 [SL b1 c1 E.length (ints E), Rf ar a b2 c2 S, Rf ar' b b3 c3 S'] (.tup [.sl 0 0 (distL ar a E S ar' b S').length 1 none, I 0], [ints (distL ar a E S ar' b S')]) := by
  obtain ⟨cp, hA⟩ := dist_first ar a b1 b2 b3 c1 c2 c3 E S ar' b S' h1 h2 h3 he
  have hok : okFunc Try.f14 = true := by kernel_rfl
  have hlp := lim_loopOK (E := E0) (pr := pr1) mixed pr1_ok fn14 (show Try.f14.body = some dBody by kernel_rfl) hok
  have hnd : nodupB ((loopsOf dBody).map firstId) = true := by kernel_rfl
  have hl := meetL_len ar a E S ar' b S'
  have hxl : (apartL (meetL ar a E S ar' b S')).length ≤ 160000 := by unfold apartL; rw [List.length_map]; exact hl
  unfold distL setQ
  generalize apartL (meetL ar a E S ar' b S') = xs at *
  have hsl := sortQ_len xs
  have hcl := cpt_le (sortQ xs)
  refine walk_fun (E := E0) fn14 (by kernel_rfl) (show Try.f14.body = some dBody by kernel_rfl) (Nat.le_of_ble_eq_true (by kernel_rfl)) fun w F => ?_
  rw [show ([dBody] : List Code) = [Code.seq dA0 (.seq dA1 (.seq dA2 (.seq dA4 (.seq dA5 (.seq dR10 (.seq dR11 .ret))))))] from congrArg (fun c => [c]) dBody_eq]
  refine walk_assoc [] (walk_assoc [dA0] (walk_assoc [dA0, dA1] (walk_assoc [dA0, dA1, dA2] (walk_assoc [dA0, dA1, dA2, dA4] (walk_assoc [dA0, dA1, dA2, dA4, dA5] (walk_assoc [dA0, dA1, dA2, dA4, dA5, dR10] ?_))))))
  refine walk_list (l := [dR10, dR11, .ret]) mixed (lim_sound mixed pr1_ok) hlp hnd [dA0, dA1, dA2, dA4, dA5] dPieces hA ?_
  show WalkL E0.P Try.f14.ntmps w F [dR10, dR11, .ret] (dS xs cp) _
  rw [dR10_eq]
  refine walk_region ?_
  refine walko_op (lim_sound mixed pr1_ok) (by kernel_rfl) (dst_lt (d := 38) (by kernel_rfl) (Nat.le_of_ble_eq_true (by kernel_rfl))) (S' := ?_) ?_ ?_
  rotate_left
  · simp (config := { maxSteps := 1000000 }) (disch := omega) only [push_cast, ↓reduceIte, Nat.reduceEqDiff, Nat.reduceAdd, Nat.reduceLT, Nat.reduceLeDiff, Nat.reduceBEq, Nat.reduceMul, Nat.reduceSub, Int.reduceToNat, Int.reduceEq, Int.reduceLT, Int.reduceLE, Int.reduceNeg, Int.reduceAdd, Int.reduceSub, Int.reduceMul, Try.f14, kr14, kp14_6, ow14_6, ty3, ty22, ty24, ty28, ty29, ty49, opA, opAt, dR10, dR11, dBody, sA, sB, hsl, St.add]
    rfl
  refine walko_sort sort_ok (ats := #[22]) (t := 38) (by kernel_rfl) (by kernel_rfl) (dst_lt (d := 39) (by kernel_rfl) (Nat.le_of_ble_eq_true (by kernel_rfl))) (p := 0) (g := 0) (gen := 1) (xs := xs) (cap := cp) rfl rfl (by omega) rfl ?_
  show WalkL E0.P Try.f14.ntmps w F [dR11, .ret] _ _
  rw [dR11_eq]
  refine walk_region ?_
  refine walko_op (lim_sound mixed pr1_ok) (by kernel_rfl) (dst_lt (d := 40) (by kernel_rfl) (Nat.le_of_ble_eq_true (by kernel_rfl))) (S' := ?_) ?_ ?_
  rotate_left
  · simp (config := { maxSteps := 1000000 }) (disch := omega) only [push_cast, ↓reduceIte, Nat.reduceEqDiff, Nat.reduceAdd, Nat.reduceLT, Nat.reduceLeDiff, Nat.reduceBEq, Nat.reduceMul, Nat.reduceSub, Int.reduceToNat, Int.reduceEq, Int.reduceLT, Int.reduceLE, Int.reduceNeg, Int.reduceAdd, Int.reduceSub, Int.reduceMul, Try.f14, kr14, kp14_6, ow14_6, ty3, ty22, ty24, ty28, ty29, ty49, opA, opAt, dR10, dR11, dBody, sA, sB, hsl, St.add]
    rfl
  refine walko_comp comp_ok (ats := #[22]) (t := 40) (by kernel_rfl) (by kernel_rfl) (dst_lt (d := 41) (by kernel_rfl) (Nat.le_of_ble_eq_true (by kernel_rfl))) (p := 0) (g := 0) (gen := 1) (xs := sortQ xs) (cap := cp) (by simp only [get, hsl]; rfl) rfl (by omega) rfl ?_
  refine walko_op (lim_sound mixed pr1_ok) (by kernel_rfl) (dst_lt (d := 6) (by kernel_rfl) (Nat.le_of_ble_eq_true (by kernel_rfl))) (S' := ?_) ?_ ?_
  rotate_left
  · simp (config := { maxSteps := 1000000 }) (disch := omega) only [push_cast, ↓reduceIte, Nat.reduceEqDiff, Nat.reduceAdd, Nat.reduceLT, Nat.reduceLeDiff, Nat.reduceBEq, Nat.reduceMul, Nat.reduceSub, Int.reduceToNat, Int.reduceEq, Int.reduceLT, Int.reduceLE, Int.reduceNeg, Int.reduceAdd, Int.reduceSub, Int.reduceMul, Try.f14, kr14, kp14_6, ow14_6, ty3, ty22, ty24, ty28, ty29, ty49, opA, opAt, dR10, dR11, dBody, sA, sB, hsl, St.add]
    rfl
  refine walko_op (lim_sound mixed pr1_ok) (by kernel_rfl) (dst_lt (d := 7) (by kernel_rfl) (Nat.le_of_ble_eq_true (by kernel_rfl))) (S' := ?_) ?_ ?_
  rotate_left
  · simp (config := { maxSteps := 1000000 }) (disch := omega) only [push_cast, ↓reduceIte, Nat.reduceEqDiff, Nat.reduceAdd, Nat.reduceLT, Nat.reduceLeDiff, Nat.reduceBEq, Nat.reduceMul, Nat.reduceSub, Int.reduceToNat, Int.reduceEq, Int.reduceLT, Int.reduceLE, Int.reduceNeg, Int.reduceAdd, Int.reduceSub, Int.reduceMul, Try.f14, kr14, kp14_6, ow14_6, ty3, ty22, ty24, ty28, ty29, ty49, opA, opAt, dR10, dR11, dBody, sA, sB, hsl, St.add]
    rfl
  show WalkL E0.P Try.f14.ntmps w F [.ret] _ _
  refine walk_ret ⟨.inr rfl, ?_⟩
  have hr : rowAt (ints (cpt (sortQ xs) ++ List.replicate (xs.length - (cpt (sortQ xs)).length) 0)) 0 (cpt (sortQ xs)).length = ints (cpt (sortQ xs)) := by
    unfold rowAt; rw [← ints_append, List.drop_zero]; exact List.take_left' (ints_len _)
  simp (config := { maxSteps := 1000000 }) (disch := omega) only [push_cast, ↓reduceIte, Nat.reduceEqDiff, Nat.reduceAdd, Nat.reduceLT, Nat.reduceLeDiff, Nat.reduceBEq, Nat.reduceMul, Nat.reduceSub, Int.reduceToNat, Int.reduceEq, Int.reduceLT, Int.reduceLE, Int.reduceNeg, Int.reduceAdd, Int.reduceSub, Int.reduceMul, Try.f14, kr14, kp14_6, ow14_6, ty3, ty22, ty24, ty28, ty29, ty49, retT, St.add, hr, ne_eq]
end
end Go.Proofs.Ytancjhajhdhfbaa.Tev
