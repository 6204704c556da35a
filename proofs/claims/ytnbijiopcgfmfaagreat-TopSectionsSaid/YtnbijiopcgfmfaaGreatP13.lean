/- Part 13: CAr7, CRf, CCutX, CCtt, CAw1, TevFree, CAw2. -/
import Derived.Test.YtnbijiopcgfmfaaGreatP12
import Derived.Test.YtnbijiopcgfmfaaGreatP11
import Derived.Test.YtnbijiopcgfmfaaGreatP08
/- Operations of arrays, element by element. -/
namespace Go.Proofs.YtnbijiopcgfmfaaGreat.Tev
open Go Go.RowKit Go.Proofs Go.Proofs.YtnbijiopcgfmfaaGreat.Q
set_option linter.unusedSectionVars false
set_option maxRecDepth 100000
set_option maxHeartbeats 0
set_option linter.unusedSimpArgs false
set_option linter.unusedVariables false
theorem expC_s0 (S : St) (acc : List Nat × List (List C)) (n : Nat) (l : List C) (sz : Option Nat) : expC S acc (.c (.s none n l)) sz = some (.c (.s none n l), acc.1, acc.2) := expC_SL (cap := none) (n := n) (l := l) S acc sz (by simp)
/-- What the calls for the numbers from i on give, up to n. -/
def rowN (N : Nat → Int) (i n : Nat) : List Int := (List.range (n - i)).map fun t => N (i + t)
theorem rowN_nil (N : Nat → Int) {i n : Nat} (h : n ≤ i) : rowN N i n = [] := by
  unfold rowN; rw [show n - i = 0 by omega]; rfl
theorem rowN_cons (N : Nat → Int) {i n : Nat} (h : i < n) : rowN N i n = N i :: rowN N (i + 1) n := by
  unfold rowN
  rw [show n - i = (n - (i + 1)) + 1 by omega, List.range_succ_eq_map, List.map_cons, List.map_map]
  congr 1
  apply List.map_congr_left
  intro t _
  simp only [Function.comp]
  congr 1
  omega
theorem rowN_len (N : Nat → Int) (i n : Nat) : (rowN N i n).length = n - i := by simp [rowN]
theorem rowN_get (N : Nat → Int) {n t : Nat} (h : t < n) : (rowN N 0 n)[t]? = some (N t) := by
  unfold rowN
  rw [List.getElem?_map, List.getElem?_range (by omega)]
  simp
section
variable (g : FuncId) (caps : List T) (hc : Shut caps) (kind : Int) (sh : List Int) (n : Nat) (K N Er : Nat → Int)
  (hg : ∀ i, i < n → CALL1 g (I i :: caps) = some (.tup [Vl (K i) (N i), I (Er i)], []))
include hc hg
theorem l_each (hn : n ≤ 4000) : ∀ (m i : Nat) (st : List Int), n - i = m → i ≤ n → st.length = i →
    ((∀ j, i ≤ j → j < n → Er j = 0) → lp E0 pr1 21 3 ⟨[(2, .fn g caps), (6, .pt 0 0), (8, .pt 2 0), (16, I n), (17, I i)],
        [(0, .box [I 0, .c (.s (some 0) 0 []), .c (.s (some 0) 0 [])]), (1, .arr (ints st) 1 1), (2, .box [I kind, SL true none sh.length (ints sh), .sl 1 0 st.length 1 none])], 3⟩ =
      some (.exit 0, ⟨[(6, .pt 0 0), (8, .pt 2 0)],
        [(0, .box [I 0, .c (.s (some 0) 0 []), .c (.s (some 0) 0 [])]), (1, .arr (ints (st ++ rowN N i n)) 1 1), (2, .box [I kind, SL true none sh.length (ints sh), .sl 1 0 (st ++ rowN N i n).length 1 none])], 3⟩)) ∧
    ((∃ j, i ≤ j ∧ j < n ∧ Er j ≠ 0) → ∃ e, e ≠ 0 ∧ lp E0 pr1 21 3 ⟨[(2, .fn g caps), (6, .pt 0 0), (8, .pt 2 0), (16, I n), (17, I i)],
        [(0, .box [I 0, .c (.s (some 0) 0 []), .c (.s (some 0) 0 [])]), (1, .arr (ints st) 1 1), (2, .box [I kind, SL true none sh.length (ints sh), .sl 1 0 st.length 1 none])], 3⟩ =
      some (.ret, ⟨[(6, .pt 0 0), (7, I e)], [(0, .box [I 0, .c (.s (some 0) 0 []), .c (.s (some 0) 0 [])])], 1⟩)) := by
  intro m
  induction m with
  | zero =>
    intro i st hm hi hst
    have h1 : ¬ (i : Int) < n := by omega
    refine ⟨fun _ => ?_, fun ⟨j, h2, h3, _⟩ => by omega⟩
    rw [rowN_nil N (by omega)]
    rw [lp_eq lp21_3]
    simp (config := { maxSteps := 1000000 }) (disch := omega) only [push_cast, ↓reduceIte, Nat.reduceEqDiff, Nat.reduceAdd, Nat.reduceLT, Nat.reduceLeDiff, Nat.reduceBEq, Nat.reduceMul, Nat.reduceSub, Int.reduceToNat, Int.reduceEq, Int.reduceLT, Int.reduceLE, Int.reduceNeg, Int.reduceAdd, Int.reduceSub, Int.reduceMul, Tryz.f21, kr21, kp21_3, ow21_3, ty3, ty22, ty24, ty34, ty38, h1, shut_snap _ hc, shut_foc _ _ _ hc, map_nrm, List.append_nil]
  | succ m ih =>
    intro i st hm hi hst
    have h1 : i < n := by omega
    have h1' : (i : Int) < n := by omega
    have hgi := hg i h1
    obtain ⟨i1, i2⟩ := ih (i + 1) (st ++ [N i]) (by omega) (by omega) (by simp [hst])
    have hb : (st.length + 1) * 8 ≤ 140737488355328 := by omega
    by_cases c : Er i = 0
    · refine ⟨fun h => ?_, fun ⟨j, q1, q2, q3⟩ => ?_⟩
      · have ih' := i1 fun j h2 h3 => h j (by omega) h3
        rw [List.append_assoc, List.singleton_append, ← rowN_cons N h1] at ih'
        simp only [cast1, List.length_append, List.length_cons, List.length_nil, Nat.zero_add, Nat.add_zero, Int.natCast_zero, Int.natCast_add, Int.zero_add, ints_1, ints_0, ] at ih'
        rw [lp_eq lp21_3]
        simp (config := { maxSteps := 1000000 }) (disch := omega) only [push_cast, ↓reduceIte, Nat.reduceEqDiff, Nat.reduceAdd, Nat.reduceLT, Nat.reduceLeDiff, Nat.reduceBEq, Nat.reduceMul, Nat.reduceSub, Int.reduceToNat, Int.reduceEq, Int.reduceLT, Int.reduceLE, Int.reduceNeg, Int.reduceAdd, Int.reduceSub, Int.reduceMul, Tryz.f21, kr21, kp21_3, ow21_3, ty3, ty22, ty24, ty34, ty38, h1', shut_snap _ hc, shut_foc _ _ _ hc, map_nrm, hgi, c, ih', hb, ne_eq]
      · obtain ⟨e, he, ih'⟩ := i2 ⟨j, by rcases Nat.eq_or_lt_of_le q1 with q | q; rw [← q] at q3; exact absurd c q3; omega, q2, q3⟩
        simp only [cast1, List.length_append, List.length_cons, List.length_nil, Nat.zero_add, Nat.add_zero, Int.natCast_zero, Int.natCast_add, Int.zero_add, ints_1, ints_0, ] at ih'
        refine ⟨e, he, ?_⟩
        rw [lp_eq lp21_3]
        simp (config := { maxSteps := 1000000 }) (disch := omega) only [push_cast, ↓reduceIte, Nat.reduceEqDiff, Nat.reduceAdd, Nat.reduceLT, Nat.reduceLeDiff, Nat.reduceBEq, Nat.reduceMul, Nat.reduceSub, Int.reduceToNat, Int.reduceEq, Int.reduceLT, Int.reduceLE, Int.reduceNeg, Int.reduceAdd, Int.reduceSub, Int.reduceMul, Tryz.f21, kr21, kp21_3, ow21_3, ty3, ty22, ty24, ty34, ty38, h1', shut_snap _ hc, shut_foc _ _ _ hc, map_nrm, hgi, c, ih', hb, ne_eq]
    · refine ⟨fun h => absurd (h i (Nat.le_refl _) h1) c, fun _ => ⟨Er i, c, ?_⟩⟩
      rw [lp_eq lp21_3]
      simp (config := { maxSteps := 1000000 }) (disch := omega) only [push_cast, ↓reduceIte, Nat.reduceEqDiff, Nat.reduceAdd, Nat.reduceLT, Nat.reduceLeDiff, Nat.reduceBEq, Nat.reduceMul, Nat.reduceSub, Int.reduceToNat, Int.reduceEq, Int.reduceLT, Int.reduceLE, Int.reduceNeg, Int.reduceAdd, Int.reduceSub, Int.reduceMul, Tryz.f21, kr21, kp21_3, ow21_3, ty3, ty22, ty24, ty34, ty38, h1', shut_snap _ hc, shut_foc _ _ _ hc, map_nrm, hgi, c, ne_eq]
theorem s_each (hn : sizeQ sh = n) (hs : (sh.length : Int) ≤ 1000) :
    ((∀ j, j < n → Er j = 0) → CALL1 21 [I kind, SL true none sh.length (ints sh), .fn g caps] = some (.tup [.agg [I kind, .c (.s none sh.length (ints sh)), .sl 0 0 (rowN N 0 n).length 1 none], I 0], [ints (rowN N 0 n)])) ∧
    ((∃ j, j < n ∧ Er j ≠ 0) → ∃ e, e ≠ 0 ∧ CALL1 21 [I kind, SL true none sh.length (ints sh), .fn g caps] = some (.tup [.agg [I 0, .sl 0 0 0 1 none, .sl 1 0 0 1 none], I e], [[], []])) := by
  have hz := fun b c => old1 (by decide) (a_size b c sh (by omega))
  have hb := size_bd sh
  have hexp := fun S acc sz => expC_SL (cap := none) (n := sh.length) (l := ints sh) S acc sz (by simp)
  obtain ⟨i1, i2⟩ := l_each g caps hc kind sh n K N Er hg (by omega) n 0 [] (by omega) (by omega) rfl
  refine ⟨fun h => ?_, fun ⟨j, h1, h2⟩ => ?_⟩
  · have hl := i1 fun j _ h2 => h j h2
    rw [List.nil_append] at hl
    simp only [cast1, List.length_append, List.length_cons, List.length_nil, Nat.zero_add, Nat.add_zero, Int.natCast_zero, Int.natCast_add, Int.zero_add, ints_1, ints_0, ] at hl
    refine lim_run (fn := Tryz.f21) fn21 (pr1_none (by decide) _) body21 (Nat.le_of_ble_eq_true rfl) ok21 ?_
    simp (config := { maxSteps := 1000000 }) (disch := omega) only [push_cast, ↓reduceIte, Nat.reduceEqDiff, Nat.reduceAdd, Nat.reduceLT, Nat.reduceLeDiff, Nat.reduceBEq, Nat.reduceMul, Nat.reduceSub, Int.reduceToNat, Int.reduceEq, Int.reduceLT, Int.reduceLE, Int.reduceNeg, Int.reduceAdd, Int.reduceSub, Int.reduceMul, Tryz.f21, kr21, kp21_3, ow21_3, ty3, ty22, ty24, ty34, ty38, hz, hn, shut_snap _ hc, shut_foc _ _ _ hc, map_nrm, hl, hexp]
  · obtain ⟨e, he, hl⟩ := i2 ⟨j, by omega, h1, h2⟩
    simp only [cast1, List.length_append, List.length_cons, List.length_nil, Nat.zero_add, Nat.add_zero, Int.natCast_zero, Int.natCast_add, Int.zero_add, ints_1, ints_0, ] at hl
    refine ⟨e, he, ?_⟩
    refine lim_run (fn := Tryz.f21) fn21 (pr1_none (by decide) _) body21 (Nat.le_of_ble_eq_true rfl) ok21 ?_
    simp (config := { maxSteps := 1000000 }) (disch := omega) only [push_cast, ↓reduceIte, Nat.reduceEqDiff, Nat.reduceAdd, Nat.reduceLT, Nat.reduceLeDiff, Nat.reduceBEq, Nat.reduceMul, Nat.reduceSub, Int.reduceToNat, Int.reduceEq, Int.reduceLT, Int.reduceLE, Int.reduceNeg, Int.reduceAdd, Int.reduceSub, Int.reduceMul, Tryz.f21, kr21, kp21_3, ow21_3, ty3, ty22, ty24, ty34, ty38, hz, hn, shut_snap _ hc, shut_foc _ _ _ hc, map_nrm, hl, hexp]
end
section
variable (op : ByteArray) (ka kb : Int) (sa ea sb eb : List Int)
abbrev StrU (op : ByteArray) : T := .rb [.c (.v (.string op))] 0
theorem s_Do1 (b1 b2 b3 b4 : Bool) (c1 c2 c3 c4 : Option Nat) (hsa : (sa.length : Int) ≤ 1000) (hea : (ea.length : Int) ≤ 100000) (hsb : (sb.length : Int) ≤ 1000) (heb : (eb.length : Int) ≤ 100000) (i : Nat) {x y k n e : Int} (hx : elAt sa ea i = some x) (hy : elAt sb eb i = some y)
    (ho : CALL1 23 [Str op, Vl ka x, Vl kb y] = some (.tup [Vl k n, I e], [])) :
    CALL1 22 [I i, StrU op, ArU ka b1 c1 sa b2 c2 ea, ArU kb b3 c3 sb b4 c4 eb] = some (.tup [Vl k n, I e], []) := by
  have h1 := fun b1 b2 c1 c2 => old1 (by decide) (a_at ka b1 b2 c1 c2 sa ea (by omega) (by omega) i x hx)
  have h2 := fun b1 b2 c1 c2 => old1 (by decide) (a_at kb b1 b2 c1 c2 sb eb (by omega) (by omega) i y hy)
  refine lim_run (fn := Tryz.f22) fn22 (pr1_none (by decide) _) body22 (Nat.le_of_ble_eq_true rfl) ok22 ?_
  simp (config := { maxSteps := 1000000 }) (disch := omega) only [push_cast, ↓reduceIte, Nat.reduceEqDiff, Nat.reduceAdd, Nat.reduceLT, Nat.reduceLeDiff, Nat.reduceBEq, Nat.reduceMul, Nat.reduceSub, Int.reduceToNat, Int.reduceEq, Int.reduceLT, Int.reduceLE, Int.reduceNeg, Int.reduceAdd, Int.reduceSub, Int.reduceMul, Tryz.f22, kr22, ty3, ty9, ty22, ty24, ty34, ty38, h1, h2, ho]
theorem shut_rb3 (q1 q2 q3 : List U) (o1 o2 o3 : Nat) : Shut [.rb q1 o1, .rb q2 o2, .rb q3 o3] := fun x h => by simp at h; rcases h with rfl | rfl | rfl <;> exact .inl ⟨_, _, rfl⟩
theorem rowAt_6 (a b c d e f : C) : rowAt [a, b, c, d, e, f] 0 6 = [a, b, c, d, e, f] := rfl
theorem el_has {k : Int} {sh el : List Int} (h : okA k sh el) {S : List Int} {n : Nat} (hn : sizeQ S = n) (hS : sh.length = 0 ∨ S = sh) {i : Nat} (hi : i < n) : ∃ x, elAt sh el i = some x := by
  unfold elAt
  obtain ⟨_, h2, _⟩ := h
  by_cases c : sh.length = 0
  · rw [if_pos c]
    have : sh = [] := List.length_eq_zero_iff.1 c
    subst this
    rw [show sizeQ [] = 1 from rfl] at h2
    have : 0 < el.length := by omega
    exact ⟨_, List.getElem?_eq_getElem this⟩
  · rw [if_neg c]
    rcases hS with q | rfl
    · exact absurd q c
    · have : i < el.length := by omega
      exact ⟨_, List.getElem?_eq_getElem this⟩
/-- What an operation of two arrays is. -/
theorem s_Do (ha : okA ka sa ea) (hb : okA kb sb eb) (hsa : (sa.length : Int) ≤ 1000) (hea : (ea.length : Int) ≤ 100000) (hsb : (sb.length : Int) ≤ 1000) (heb : (eb.length : Int) ≤ 100000) :
    (∃ e, e ≠ 0 ∧ CALL1 7 [Str op, Ar ka true none sa true none ea, Ar kb true none sb true none eb] = some (.tup [.agg [I 0, .sl 0 0 0 1 none, .sl 1 0 0 1 none], I e], [[], []])) ∨
    ∃ (sh : List Int) (n : Nat) (N : Nat → Int), ¬ kindQ op ka kb = 0 ∧ n ≤ 4000 ∧
      CALL1 7 [Str op, Ar ka true none sa true none ea, Ar kb true none sb true none eb] = some (.tup [.agg [I (kindQ op ka kb), .c (.s none sh.length (ints sh)), .sl 0 0 (rowN N 0 n).length 1 none], I 0], [ints (rowN N 0 n)]) ∧
      ∀ i, i < n → ∃ x y, elAt sa ea i = some x ∧ elAt sb eb i = some y ∧ CALL1 23 [Str op, Vl ka x, Vl kb y] = some (.tup [Vl (kindQ op ka kb) (N i), I 0], []) := by
  have v1 := fun b1 b2 c1 c2 => old1 (by decide) (a_Valid ka b1 b2 c1 c2 sa ea (by omega) (by omega))
  have v2 := fun b1 b2 c1 c2 => old1 (by decide) (a_Valid kb b1 b2 c1 c2 sb eb (by omega) (by omega))
  rw [decide_eq_true ha] at v1
  rw [decide_eq_true hb] at v2
  have kb0 : ¬ kb = 0 := by have := hb.1; omega
  have hk := old1 (by decide) (a_Kind op ka kb kb0)
  by_cases k0 : kindQ op ka kb = 0
  · left
    refine ⟨70, by decide, ?_⟩
    refine lim_run (fn := Tryz.f7) fn7 (pr1_none (by decide) _) body7 (Nat.le_of_ble_eq_true rfl) ok7 ?_
    simp (config := { maxSteps := 1000000 }) (disch := omega) only [push_cast, ↓reduceIte, Nat.reduceEqDiff, Nat.reduceAdd, Nat.reduceLT, Nat.reduceLeDiff, Nat.reduceBEq, Nat.reduceMul, Nat.reduceSub, Int.reduceToNat, Int.reduceEq, Int.reduceLT, Int.reduceLE, Int.reduceNeg, Int.reduceAdd, Int.reduceSub, Int.reduceMul, Tryz.f7, kr7, ty3, ty9, ty22, ty24, ty34, ty53, v1, v2, hk, k0]
  have hs := fun b c => a_shaped ka kb sa ea sb eb b c hsa hsb (by omega) (by omega)
  cases hq : shQ sa sb with
  | none =>
    left
    rw [hq] at hs
    have hs := fun b c => old1 (by decide) (hs b c)
    refine ⟨30, by decide, ?_⟩
    refine lim_run (fn := Tryz.f7) fn7 (pr1_none (by decide) _) body7 (Nat.le_of_ble_eq_true rfl) ok7 ?_
    simp (config := { maxSteps := 1000000 }) (disch := omega) only [push_cast, ↓reduceIte, Nat.reduceEqDiff, Nat.reduceAdd, Nat.reduceLT, Nat.reduceLeDiff, Nat.reduceBEq, Nat.reduceMul, Nat.reduceSub, Int.reduceToNat, Int.reduceEq, Int.reduceLT, Int.reduceLE, Int.reduceNeg, Int.reduceAdd, Int.reduceSub, Int.reduceMul, Tryz.f7, kr7, ty3, ty9, ty22, ty24, ty34, ty53, v1, v2, hk, k0, hs, rowAt_6]
  | some sh =>
    rw [hq] at hs
    have hs := fun b c => old1 (by decide) (hs b c)
    have hsh : (sa.length = 0 ∨ sh = sa) ∧ (sb.length = 0 ∨ sh = sb) ∧ (sh = sa ∨ sh = sb) := by
      unfold shQ at hq
      split at hq
      · rename_i c; obtain rfl := Option.some.inj hq; exact ⟨.inl c, .inr rfl, .inr rfl⟩
      · split at hq
        · rename_i c; obtain rfl := Option.some.inj hq; exact ⟨.inr rfl, .inl c, .inl rfl⟩
        · split at hq
          · rename_i c; obtain rfl := Option.some.inj hq; exact ⟨.inr rfl, .inr c, .inl rfl⟩
          · simp at hq
    have hz : 0 ≤ sizeQ sh ∧ sizeQ sh ≤ 4000 ∧ (sh.length : Int) ≤ 1000 := by
      have q1 := ha.2.1
      have q2 := hb.2.1
      have q3 := size_bd sh
      rcases hsh.2.2 with e | e <;> rw [e] at q3 ⊢ <;> omega
    obtain ⟨n, hn⟩ : ∃ n : Nat, sizeQ sh = n := ⟨(sizeQ sh).toNat, by omega⟩
    have H : ∀ i, ∃ p : Int × Int × Int × Int × Int, i < n → elAt sa ea i = some p.1 ∧ elAt sb eb i = some p.2.1 ∧
        CALL1 23 [Str op, Vl ka p.1, Vl kb p.2.1] = some (.tup [Vl p.2.2.1 p.2.2.2.1, I p.2.2.2.2], []) ∧ (p.2.2.2.2 = 0 → p.2.2.1 = kindQ op ka kb) := fun i => by
      by_cases hi : i < n
      · obtain ⟨x, hx⟩ := el_has ha hn hsh.1 hi
        obtain ⟨y, hy⟩ := el_has hb hn hsh.2.1 hi
        obtain ⟨k, m, e, h1, h2⟩ := s_one op ka x kb y k0
        exact ⟨(x, y, k, m, e), fun _ => ⟨hx, hy, h1, h2⟩⟩
      · exact ⟨(0, 0, 0, 0, 0), fun h => absurd h hi⟩
    have hg : ∀ i, i < n → CALL1 22 (I i :: [StrU op, ArU ka true none sa true none ea, ArU kb true none sb true none eb]) = some (.tup [Vl (Classical.choose (H i)).2.2.1 (Classical.choose (H i)).2.2.2.1, I (Classical.choose (H i)).2.2.2.2], []) := fun i hi => by
      obtain ⟨hx, hy, h1, _⟩ := Classical.choose_spec (H i) hi
      exact s_Do1 op ka kb sa ea sb eb true true true true none none none none hsa hea hsb heb i hx hy h1
    obtain ⟨e1, e2⟩ := s_each 22 [StrU op, ArU ka true none sa true none ea, ArU kb true none sb true none eb] (shut_rb3 _ _ _ _ _ _) (kindQ op ka kb) sh n (fun i => (Classical.choose (H i)).2.2.1) (fun i => (Classical.choose (H i)).2.2.2.1) (fun i => (Classical.choose (H i)).2.2.2.2) hg hn hz.2.2
    have hrow : rowAt (ints sh) 0 sh.length = ints sh := by
      have := rowAt_all (ints sh) sh.length (by rw [ints_len])
      exact this
    by_cases hall : ∀ j, j < n → (Classical.choose (H j)).2.2.2.2 = 0
    · right
      refine ⟨sh, n, fun i => (Classical.choose (H i)).2.2.2.1, k0, by omega, ?_, fun i hi => ?_⟩
      · have e1 := e1 hall
        generalize (fun i => (Classical.choose (H i)).2.2.2.1) = N at e1 ⊢
        refine lim_run (fn := Tryz.f7) fn7 (pr1_none (by decide) _) body7 (Nat.le_of_ble_eq_true rfl) ok7 ?_
        simp (config := { maxSteps := 1000000 }) (disch := omega) only [push_cast, ↓reduceIte, Nat.reduceEqDiff, Nat.reduceAdd, Nat.reduceLT, Nat.reduceLeDiff, Nat.reduceBEq, Nat.reduceMul, Nat.reduceSub, Int.reduceToNat, Int.reduceEq, Int.reduceLT, Int.reduceLE, Int.reduceNeg, Int.reduceAdd, Int.reduceSub, Int.reduceMul, Tryz.f7, kr7, ty3, ty9, ty22, ty24, ty34, ty53, v1, v2, hk, k0, hs, rowAt_6, hrow, e1, expC_s0]
      · obtain ⟨hx, hy, h1, h2⟩ := Classical.choose_spec (H i) hi
        refine ⟨_, _, hx, hy, ?_⟩
        rw [h1, h2 (hall i hi), hall i hi]
    · left
      obtain ⟨e, he, e2⟩ := e2 (Classical.byContradiction fun q => hall fun j hj => Classical.byContradiction fun q2 => q ⟨j, hj, q2⟩)
      refine ⟨e, he, ?_⟩
      refine lim_run (fn := Tryz.f7) fn7 (pr1_none (by decide) _) body7 (Nat.le_of_ble_eq_true rfl) ok7 ?_
      simp (config := { maxSteps := 1000000 }) (disch := omega) only [push_cast, ↓reduceIte, Nat.reduceEqDiff, Nat.reduceAdd, Nat.reduceLT, Nat.reduceLeDiff, Nat.reduceBEq, Nat.reduceMul, Nat.reduceSub, Int.reduceToNat, Int.reduceEq, Int.reduceLT, Int.reduceLE, Int.reduceNeg, Int.reduceAdd, Int.reduceSub, Int.reduceMul, Tryz.f7, kr7, ty3, ty9, ty22, ty24, ty34, ty53, v1, v2, hk, k0, hs, rowAt_6, hrow, e2]
end
end Go.Proofs.YtnbijiopcgfmfaaGreat.Tev
/- The document's At and SameShape; One. -/
namespace Go.Proofs.YtnbijiopcgfmfaaGreat.Tev
open Go Go.RowKit Go.Proofs Go.Proofs.YtnbijiopcgfmfaaGreat.Q
set_option linter.unusedSectionVars false
set_option maxRecDepth 100000
set_option maxHeartbeats 0
set_option linter.unusedSimpArgs false
set_option linter.unusedVariables false
section
variable (k : Int) (b1 b2 : Bool) (c1 c2 : Option Nat) (sh el : List Int)
theorem r_At (hs : (sh.length : Int) ≤ 9223372036854775806) (he : (el.length : Int) ≤ 9223372036854775806) (i : Nat) (x : Int) (h : elAt sh el i = some x) : CALL 9 [Ar k b1 c1 sh b2 c2 el, I i] = some (Vl k x, []) := by
  unfold elAt at h
  by_cases c : sh.length = 0
  · rw [if_pos c] at h
    have c' : (sh.length : Int) = 0 := by omega
    have hl : 0 < el.length := by rcases Nat.eq_zero_or_pos el.length with q | q; rw [List.length_eq_zero_iff.1 q] at h; simp at h; exact q
    have hl' : (0 : Int) < el.length := by omega
    refine lim_run (fn := Tryz.f9) fn9 rfl body9 (Nat.le_of_ble_eq_true rfl) ok9 ?_
    simp (config := { maxSteps := 1000000 }) (disch := omega) only [push_cast, ↓reduceIte, Nat.reduceEqDiff, Nat.reduceAdd, Nat.reduceLT, Nat.reduceLeDiff, Nat.reduceBEq, Nat.reduceMul, Nat.reduceSub, Int.reduceToNat, Int.reduceEq, Int.reduceLT, Int.reduceLE, Int.reduceNeg, Int.reduceAdd, Int.reduceSub, Int.reduceMul, Tryz.f9, kr9, ty3, ty22, ty24, ty38, c', hl, hl', getD_of h]
  · rw [if_neg c] at h
    have c' : ¬ (sh.length : Int) = 0 := by omega
    have hl : i < el.length := by rcases Nat.lt_or_ge i el.length with q | q; exact q; rw [List.getElem?_eq_none q] at h; cases h
    have hl' : (i : Int) < el.length := by omega
    refine lim_run (fn := Tryz.f9) fn9 rfl body9 (Nat.le_of_ble_eq_true rfl) ok9 ?_
    simp (config := { maxSteps := 1000000 }) (disch := omega) only [push_cast, ↓reduceIte, Nat.reduceEqDiff, Nat.reduceAdd, Nat.reduceLT, Nat.reduceLeDiff, Nat.reduceBEq, Nat.reduceMul, Nat.reduceSub, Int.reduceToNat, Int.reduceEq, Int.reduceLT, Int.reduceLE, Int.reduceNeg, Int.reduceAdd, Int.reduceSub, Int.reduceMul, Tryz.f9, kr9, ty3, ty22, ty24, ty38, c', hl, hl', getD_of h]
end
theorem l_Same (b1 b2 : Bool) (c1 c2 : Option Nat) (xs : List Int) (hx : (xs.length : Int) ≤ 9223372036854775806) :
    ∀ (r : List Int) (i : Nat), xs.drop i = r → lp E0 pr0 12 4 ⟨[(0, SL b1 c1 xs.length (ints xs)), (1, SL b2 c2 xs.length (ints xs)), (5, I i)], [], 0⟩ = some (.exit 0, ⟨[], [], 0⟩) := by
  intro r
  induction r with
  | nil =>
    intro i hi
    have h1 := drop_nil hi
    have h2 : ¬ (i : Int) < xs.length := by omega
    rw [lp_eq lp12_4]
    simp (config := { maxSteps := 1000000 }) (disch := omega) only [push_cast, ↓reduceIte, Nat.reduceEqDiff, Nat.reduceAdd, Nat.reduceLT, Nat.reduceLeDiff, Nat.reduceBEq, Nat.reduceMul, Nat.reduceSub, Int.reduceToNat, Int.reduceEq, Int.reduceLT, Int.reduceLE, Int.reduceNeg, Int.reduceAdd, Int.reduceSub, Int.reduceMul, Tryz.f12, kr12, kp12_4, ow12_4, ty3, ty4, ty22, tb4, h2]
  | cons x r ih =>
    intro i hi
    obtain ⟨h1, h2, h3⟩ := drop_cons hi
    have h4 : (i : Int) < xs.length := by omega
    have ih' := ih (i + 1) h3
    simp only [cast1] at ih'
    rw [lp_eq lp12_4]
    simp (config := { maxSteps := 1000000 }) (disch := omega) only [push_cast, ↓reduceIte, Nat.reduceEqDiff, Nat.reduceAdd, Nat.reduceLT, Nat.reduceLeDiff, Nat.reduceBEq, Nat.reduceMul, Nat.reduceSub, Int.reduceToNat, Int.reduceEq, Int.reduceLT, Int.reduceLE, Int.reduceNeg, Int.reduceAdd, Int.reduceSub, Int.reduceMul, Tryz.f12, kr12, kp12_4, ow12_4, ty3, ty4, ty22, tb4, h1, h4, getD_of h2, ih', ne_eq]
theorem r_Same (b1 b2 : Bool) (c1 c2 : Option Nat) (xs : List Int) (hx : (xs.length : Int) ≤ 9223372036854775806) : CALL 12 [SL b1 c1 xs.length (ints xs), SL b2 c2 xs.length (ints xs)] = some (B true, []) := by
  have h := l_Same b1 b2 c1 c2 xs hx xs 0 rfl
  simp only [Int.natCast_zero] at h
  refine lim_run (fn := Tryz.f12) fn12 rfl body12 (Nat.le_of_ble_eq_true rfl) ok12 ?_
  simp (config := { maxSteps := 1000000 }) (disch := omega) only [push_cast, ↓reduceIte, Nat.reduceEqDiff, Nat.reduceAdd, Nat.reduceLT, Nat.reduceLeDiff, Nat.reduceBEq, Nat.reduceMul, Nat.reduceSub, Int.reduceToNat, Int.reduceEq, Int.reduceLT, Int.reduceLE, Int.reduceNeg, Int.reduceAdd, Int.reduceSub, Int.reduceMul, Tryz.f12, kr12, kp12_4, ow12_4, ty3, ty4, ty22, tb4, h, ne_eq]
theorem s_One (op : ByteArray) (ka a kb b : Int) (ha : fitsQ ka a) (hb : fitsQ kb b) (hk : ¬ kb = 0) (h : ¬ kindQ op ka kb = 0) {k n e : Int} (ho : CALL1 23 [Str op, Vl ka a, Vl kb b] = some (.tup [Vl k n, I e], [])) :
    CALL1 8 [Str op, Vl ka a, Vl kb b] = some (.tup [Vl k n, I e], []) := by
  have v1 := old1 (by decide) (a_IsValue ka a)
  have v2 := old1 (by decide) (a_IsValue kb b)
  have k1 := old1 (by decide) (a_Kind op ka kb hk)
  rw [decide_eq_true ha] at v1
  rw [decide_eq_true hb] at v2
  refine lim_run (fn := Tryz.f8) fn8 (pr1_none (by decide) _) body8 (Nat.le_of_ble_eq_true rfl) ok8 ?_
  simp (config := { maxSteps := 1000000 }) (disch := omega) only [push_cast, ↓reduceIte, Nat.reduceEqDiff, Nat.reduceAdd, Nat.reduceLT, Nat.reduceLeDiff, Nat.reduceBEq, Nat.reduceMul, Nat.reduceSub, Int.reduceToNat, Int.reduceEq, Int.reduceLT, Int.reduceLE, Int.reduceNeg, Int.reduceAdd, Int.reduceSub, Int.reduceMul, Tryz.f8, kr8, ty3, ty34, ty38, v1, v2, k1, h, ho]
end Go.Proofs.YtnbijiopcgfmfaaGreat.Tev
/- section.Cut of any descriptor. -/
namespace Go.Proofs.YtnbijiopcgfmfaaGreat.Tev
open Go Go.RowKit Go.Proofs Go.Proofs.YtnbijiopcgfmfaaGreat.Q
set_option linter.unusedSectionVars false
set_option maxRecDepth 100000
set_option maxHeartbeats 0
set_option linter.unusedSimpArgs false
set_option linter.unusedVariables false
/-- A subscript's cells. -/
def subC (x : SubQ) : List C := [.v (.bool x.1), CI x.2.1, CI x.2.2.1, CI x.2.2.2.1, CI x.2.2.2.2]
theorem subC_len (x : SubQ) : (subC x).length = 5 := rfl
section
variable {l : List SubQ} {i : Nat} {p : SubQ}
theorem sb0 (h : l[i]? = some p) : (l.flatMap subC)[i * 5]? = some (.v (.bool p.1)) := flat_get subC_len h 0 (by decide)
theorem sb1 (h : l[i]? = some p) : (l.flatMap subC)[i * 5 + 1]? = some (CI p.2.1) := flat_get subC_len h 1 (by decide)
theorem sb2 (h : l[i]? = some p) : (l.flatMap subC)[i * 5 + 2]? = some (CI p.2.2.1) := flat_get subC_len h 2 (by decide)
theorem sb3 (h : l[i]? = some p) : (l.flatMap subC)[i * 5 + 3]? = some (CI p.2.2.2.1) := flat_get subC_len h 3 (by decide)
theorem sb4 (h : l[i]? = some p) : (l.flatMap subC)[i * 5 + 4]? = some (CI p.2.2.2.2) := flat_get subC_len h 4 (by decide)
end
def badS (x : SubQ) : Prop := x.1 = false ∧ ¬ okT x.2.2.1 x.2.2.2.1 x.2.2.2.2
instance (x : SubQ) : Decidable (badS x) := by unfold badS; infer_instance
abbrev SS (b : Bool) (c : Option Nat) (X : List SubQ) : T := SL b c X.length (X.flatMap subC)
section
variable (base : Int) (b1 b2 b3 : Bool) (c1 c2 c3 : Option Nat) (E S : List Int) (X : List SubQ)
theorem l_Cut4 (hX : (X.length : Int) ≤ 1000) : ∀ (r : List SubQ) (i : Nat), X.drop i = r →
    ((∀ x ∈ r, ¬ badS x) → lp E0 pr0 10 4 ⟨[(1, SS b3 c3 X), (2, .pt 0 0), (4, .pt 1 0), (31, SS b3 c3 X), (32, I X.length), (33, I i)],
        [(0, .box [I base, SL b1 c1 E.length (ints E), SL b2 c2 S.length (ints S)]), (1, .box [I 0, .c (.s (some 0) 0 []), .c (.s (some 0) 0 [])])], 2⟩ =
      some (.exit 0, ⟨[(1, SS b3 c3 X), (2, .pt 0 0), (4, .pt 1 0)],
        [(0, .box [I base, SL b1 c1 E.length (ints E), SL b2 c2 S.length (ints S)]), (1, .box [I 0, .c (.s (some 0) 0 []), .c (.s (some 0) 0 [])])], 2⟩)) ∧
    ((∃ x ∈ r, badS x) → lp E0 pr0 10 4 ⟨[(1, SS b3 c3 X), (2, .pt 0 0), (4, .pt 1 0), (31, SS b3 c3 X), (32, I X.length), (33, I i)],
        [(0, .box [I base, SL b1 c1 E.length (ints E), SL b2 c2 S.length (ints S)]), (1, .box [I 0, .c (.s (some 0) 0 []), .c (.s (some 0) 0 [])])], 2⟩ =
      some (.ret, ⟨[(4, .pt 0 0), (5, I 2)], [(0, .box [I 0, .c (.s (some 0) 0 []), .c (.s (some 0) 0 [])])], 1⟩)) := by
  intro r
  induction r with
  | nil =>
    intro i h1
    have h2 := drop_nil h1
    have h3 : ¬ (i : Int) < X.length := by omega
    refine ⟨fun _ => ?_, fun ⟨x, h, _⟩ => by simp at h⟩
    rw [lp_eq lp10_4]
    simp (config := { maxSteps := 1000000 }) (disch := omega) only [push_cast, ↓reduceIte, Nat.reduceEqDiff, Nat.reduceAdd, Nat.reduceLT, Nat.reduceLeDiff, Nat.reduceBEq, Nat.reduceMul, Nat.reduceSub, Int.reduceToNat, Int.reduceEq, Int.reduceLT, Int.reduceLE, Int.reduceNeg, Int.reduceAdd, Int.reduceSub, Int.reduceMul, Tryz.f10, kr10, kp10_12, kp10_4, ow10_12, ow10_4, ty3, ty4, ty22, ty25, ty31, ty34, ty63, ty65, tb4, h3]
  | cons x r ih =>
    intro i h1
    obtain ⟨g1, g2, g3⟩ := drop_cons h1
    have g4 : (i : Int) < X.length := by omega
    obtain ⟨i1, i2⟩ := ih (i + 1) g3
    obtain ⟨is, one, lo, hi, st⟩ := x
    have hC := c_Count lo hi st
    by_cases c : badS (is, one, lo, hi, st)
    · refine ⟨fun h => absurd c (h _ List.mem_cons_self), fun _ => ?_⟩
      obtain ⟨rfl, c2⟩ := c
      rw [if_neg c2, if_neg c2] at hC
      rw [lp_eq lp10_4]
      simp (config := { maxSteps := 1000000 }) (disch := omega) only [push_cast, ↓reduceIte, Nat.reduceEqDiff, Nat.reduceAdd, Nat.reduceLT, Nat.reduceLeDiff, Nat.reduceBEq, Nat.reduceMul, Nat.reduceSub, Int.reduceToNat, Int.reduceEq, Int.reduceLT, Int.reduceLE, Int.reduceNeg, Int.reduceAdd, Int.reduceSub, Int.reduceMul, Tryz.f10, kr10, kp10_12, kp10_4, ow10_12, ow10_4, ty3, ty4, ty22, ty25, ty31, ty34, ty63, ty65, tb4, g1, g4, sb0 g2, sb1 g2, sb2 g2, sb3 g2, sb4 g2, hC, ne_eq]
    · have key : ∀ {Y : Option (Ex × St)}, lp E0 pr0 10 4 ⟨[(1, SS b3 c3 X), (2, .pt 0 0), (4, .pt 1 0), (31, SS b3 c3 X), (32, I X.length), (33, I ((i : Int) + 1))],
          [(0, .box [I base, SL b1 c1 E.length (ints E), SL b2 c2 S.length (ints S)]), (1, .box [I 0, .c (.s (some 0) 0 []), .c (.s (some 0) 0 [])])], 2⟩ = Y →
          lp E0 pr0 10 4 ⟨[(1, SS b3 c3 X), (2, .pt 0 0), (4, .pt 1 0), (31, SS b3 c3 X), (32, I X.length), (33, I i)],
          [(0, .box [I base, SL b1 c1 E.length (ints E), SL b2 c2 S.length (ints S)]), (1, .box [I 0, .c (.s (some 0) 0 []), .c (.s (some 0) 0 [])])], 2⟩ = Y := by
        intro Y hY
        cases is with
        | true =>
          rw [lp_eq lp10_4]
          simp (config := { maxSteps := 1000000 }) (disch := omega) only [push_cast, ↓reduceIte, Nat.reduceEqDiff, Nat.reduceAdd, Nat.reduceLT, Nat.reduceLeDiff, Nat.reduceBEq, Nat.reduceMul, Nat.reduceSub, Int.reduceToNat, Int.reduceEq, Int.reduceLT, Int.reduceLE, Int.reduceNeg, Int.reduceAdd, Int.reduceSub, Int.reduceMul, Tryz.f10, kr10, kp10_12, kp10_4, ow10_12, ow10_4, ty3, ty4, ty22, ty25, ty31, ty34, ty63, ty65, tb4, g1, g4, sb0 g2, sb1 g2, sb2 g2, sb3 g2, sb4 g2, hC, hY, ne_eq]
        | false =>
          have c2 : okT lo hi st := Decidable.byContradiction fun q => c ⟨rfl, q⟩
          rw [if_pos c2, if_pos c2] at hC
          rw [lp_eq lp10_4]
          simp (config := { maxSteps := 1000000 }) (disch := omega) only [push_cast, ↓reduceIte, Nat.reduceEqDiff, Nat.reduceAdd, Nat.reduceLT, Nat.reduceLeDiff, Nat.reduceBEq, Nat.reduceMul, Nat.reduceSub, Int.reduceToNat, Int.reduceEq, Int.reduceLT, Int.reduceLE, Int.reduceNeg, Int.reduceAdd, Int.reduceSub, Int.reduceMul, Tryz.f10, kr10, kp10_12, kp10_4, ow10_12, ow10_4, ty3, ty4, ty22, ty25, ty31, ty34, ty63, ty65, tb4, g1, g4, sb0 g2, sb1 g2, sb2 g2, sb3 g2, sb4 g2, hC, hY, ne_eq]
      refine ⟨fun h => key (i1 fun x hx => h x (List.mem_cons_of_mem _ hx)), fun ⟨x, hx, hb⟩ => key (i2 ⟨x, ?_, hb⟩)⟩
      rcases List.mem_cons.1 hx with rfl | hx
      · exact absurd hb c
      · exact hx
theorem way_st {s st : Int} (h1 : nearS s) (h2 : nearS st) : IntKind.i64.wrap (s * st) = s * st := by
  have := mul_bd (a := s) (b := st) (A := 2147483648) (B := 2147483648) h1.1 h1.2 h2.1 h2.2
  exact w64 (by omega) (by omega)
theorem l_Cut12 (hl : X.length = E.length) (hX : E.length ≤ 3) (hE : ∀ e ∈ E, 0 ≤ e ∧ e ≤ 4000) (hS : S.length = E.length) (hN : ∀ s ∈ S, nearS s) :
    ∀ (r : List SubQ) (q t : List Int) (i : Nat) (bb : Int) (es ss : List Int), X.drop i = r → E.drop i = q → S.drop i = t → (∀ x ∈ r, ¬ badS x) → es.length ≤ i → ss.length ≤ i →
      -100000000000000 + 10000000000000 * (r.length : Int) ≤ bb → bb ≤ 100000000000000 - 10000000000000 * (r.length : Int) →
    (cutOk r q → lp E0 pr0 10 12 ⟨[(2, .pt 0 0), (4, .pt 1 0), (10, .pt 4 0), (56, SS b3 c3 X), (57, I X.length), (58, I i)],
        [(0, .box [I base, SL b1 c1 E.length (ints E), SL b2 c2 S.length (ints S)]), (1, .box [I 0, .c (.s (some 0) 0 []), .c (.s (some 0) 0 [])]), (2, .arr (ints es) 2 1), (3, .arr (ints ss) 3 1), (4, .box [I bb, .sl 2 0 es.length 1 none, .sl 3 0 ss.length 1 none])], 5⟩ =
      some (.exit 2, ⟨[(2, .pt 0 0), (4, .pt 1 0), (10, .pt 4 0)],
        [(0, .box [I base, SL b1 c1 E.length (ints E), SL b2 c2 S.length (ints S)]), (1, .box [I 0, .c (.s (some 0) 0 []), .c (.s (some 0) 0 [])]), (2, .arr (ints (es ++ cutE r)) 2 1), (3, .arr (ints (ss ++ cutS r t)) 3 1), (4, .box [I (bb + cutD r t), .sl 2 0 (es ++ cutE r).length 1 none, .sl 3 0 (ss ++ cutS r t).length 1 none])], 5⟩)) ∧
    (¬ cutOk r q → lp E0 pr0 10 12 ⟨[(2, .pt 0 0), (4, .pt 1 0), (10, .pt 4 0), (56, SS b3 c3 X), (57, I X.length), (58, I i)],
        [(0, .box [I base, SL b1 c1 E.length (ints E), SL b2 c2 S.length (ints S)]), (1, .box [I 0, .c (.s (some 0) 0 []), .c (.s (some 0) 0 [])]), (2, .arr (ints es) 2 1), (3, .arr (ints ss) 3 1), (4, .box [I bb, .sl 2 0 es.length 1 none, .sl 3 0 ss.length 1 none])], 5⟩ =
      some (.ret, ⟨[(4, .pt 0 0), (5, I 92)], [(0, .box [I 0, .c (.s (some 0) 0 []), .c (.s (some 0) 0 [])])], 1⟩)) := by
  intro r
  induction r with
  | nil =>
    intro q t i bb es ss h1 h2 h3 hb k1 k2 k3 k4
    have h5 := drop_nil h1
    have h6 : ¬ (i : Int) < X.length := by omega
    have e1 : q = [] := by rw [← h2]; exact List.drop_eq_nil_of_le (by omega)
    have e2 : t = [] := by rw [← h3]; exact List.drop_eq_nil_of_le (by omega)
    subst e1 e2
    refine ⟨fun _ => ?_, fun h => absurd trivial h⟩
    rw [lp_eq lp10_12]
    simp (config := { maxSteps := 1000000 }) (disch := omega) only [push_cast, ↓reduceIte, Nat.reduceEqDiff, Nat.reduceAdd, Nat.reduceLT, Nat.reduceLeDiff, Nat.reduceBEq, Nat.reduceMul, Nat.reduceSub, Int.reduceToNat, Int.reduceEq, Int.reduceLT, Int.reduceLE, Int.reduceNeg, Int.reduceAdd, Int.reduceSub, Int.reduceMul, Tryz.f10, kr10, kp10_12, kp10_4, ow10_12, ow10_4, ty3, ty4, ty22, ty25, ty31, ty34, ty63, ty65, tb4, h6, cutE, cutS, cutD, List.append_nil, Int.add_zero]
  | cons x r ih =>
    intro q t i bb es ss h1 h2 h3 hb k1 k2 k3 k4
    obtain ⟨g1, g2, g3⟩ := drop_cons h1
    have g4 : (i : Int) < X.length := by omega
    have g4' : (i : Int) < E.length := by omega
    have g4'' : (i : Int) < S.length := by omega
    have g5 : i < E.length := by omega
    have g6 : i < S.length := by omega
    obtain ⟨n, q, rfl⟩ : ∃ n q', q = n :: q' := by
      cases q with
      | nil => exact absurd (drop_nil h2) (by omega)
      | cons n q => exact ⟨n, q, rfl⟩
    obtain ⟨s, t, rfl⟩ : ∃ s t', t = s :: t' := by
      cases t with
      | nil => exact absurd (drop_nil h3) (by omega)
      | cons s t => exact ⟨s, t, rfl⟩
    obtain ⟨_, f2, f3⟩ := drop_cons h2
    obtain ⟨_, d2, d3⟩ := drop_cons h3
    have hn := hE n (List.mem_of_getElem? f2)
    have hs := hN s (List.mem_of_getElem? d2)
    have hs' : -2147483648 ≤ s ∧ s ≤ 2147483648 := hs
    have hr3 : ((x :: r).length : Int) ≤ 3 := by
      have : (x :: r).length ≤ X.length := by rw [← h1]; simp
      omega
    simp only [List.length_cons, Int.natCast_add, Int.natCast_one] at k3 k4 hr3
    have hb' : ∀ y ∈ r, ¬ badS y := fun y hy => hb y (List.mem_cons_of_mem _ hy)
    have bs1 : (es.length + 1) * 8 ≤ 140737488355328 := by omega
    have bs2 : (ss.length + 1) * 8 ≤ 140737488355328 := by omega
    have hx := hb _ List.mem_cons_self
    obtain ⟨is, one, lo, hi, st⟩ := x
    cases is with
    | true =>
      by_cases c1' : one < 0
      · have ho : ¬ cutOk ((true, one, lo, hi, st) :: r) (n :: q) := fun h => by have := h.1; unfold SubQ.ok at this; simp at this; omega
        refine ⟨fun h => absurd h ho, fun _ => ?_⟩
        rw [lp_eq lp10_12]
        simp (config := { maxSteps := 1000000 }) (disch := omega) only [push_cast, ↓reduceIte, Nat.reduceEqDiff, Nat.reduceAdd, Nat.reduceLT, Nat.reduceLeDiff, Nat.reduceBEq, Nat.reduceMul, Nat.reduceSub, Int.reduceToNat, Int.reduceEq, Int.reduceLT, Int.reduceLE, Int.reduceNeg, Int.reduceAdd, Int.reduceSub, Int.reduceMul, Tryz.f10, kr10, kp10_12, kp10_4, ow10_12, ow10_4, ty3, ty4, ty22, ty25, ty31, ty34, ty63, ty65, tb4, g1, g4, g4', g4'', g5, g6, getD_of f2, getD_of d2, sb0 g2, sb1 g2, sb2 g2, sb3 g2, sb4 g2, c1', ne_eq]
      by_cases c2' : n - 1 < one
      · have ho : ¬ cutOk ((true, one, lo, hi, st) :: r) (n :: q) := fun h => by have := h.1; unfold SubQ.ok at this; simp at this; omega
        refine ⟨fun h => absurd h ho, fun _ => ?_⟩
        rw [lp_eq lp10_12]
        simp (config := { maxSteps := 1000000 }) (disch := omega) only [push_cast, ↓reduceIte, Nat.reduceEqDiff, Nat.reduceAdd, Nat.reduceLT, Nat.reduceLeDiff, Nat.reduceBEq, Nat.reduceMul, Nat.reduceSub, Int.reduceToNat, Int.reduceEq, Int.reduceLT, Int.reduceLE, Int.reduceNeg, Int.reduceAdd, Int.reduceSub, Int.reduceMul, Tryz.f10, kr10, kp10_12, kp10_4, ow10_12, ow10_4, ty3, ty4, ty22, ty25, ty31, ty34, ty63, ty65, tb4, g1, g4, g4', g4'', g5, g6, getD_of f2, getD_of d2, sb0 g2, sb1 g2, sb2 g2, sb3 g2, sb4 g2, c1', c2', ne_eq]
      · have hm := mul_bd (a := one) (b := s) (A := 4000) (B := 2147483648) (by omega) (by omega) hs.1 hs.2
        have hk : SubQ.ok (true, one, lo, hi, st) n := by unfold SubQ.ok; rw [if_pos rfl]; exact ⟨show 0 ≤ one by omega, show one ≤ n - 1 by omega⟩
        obtain ⟨i1, i2⟩ := ih q t (i + 1) (bb + one * s) es ss g3 f3 d3 hb' (by omega) (by omega) (by omega) (by omega)
        have w1 : IntKind.i64.wrap (one * s) = one * s := w64 (by omega) (by omega)
        have e1 : cutE ((true, one, lo, hi, st) :: r) = cutE r := by simp [cutE]
        have e2 : cutS ((true, one, lo, hi, st) :: r) (s :: t) = cutS r t := by simp [cutS]
        have e3 : bb + cutD ((true, one, lo, hi, st) :: r) (s :: t) = bb + one * s + cutD r t := by simp [cutD, SubQ.at0]; omega
        rw [e1, e2, e3]
        refine ⟨fun h => ?_, fun h => ?_⟩
        · have ih' := i1 h.2
          simp only [cast1, List.length_append, List.length_cons, List.length_nil, Nat.zero_add, Nat.add_zero, Int.natCast_zero, Int.natCast_add, Int.zero_add, ints_1, ints_0, ] at ih' ⊢
          rw [lp_eq lp10_12]
          simp (config := { maxSteps := 1000000 }) (disch := omega) only [push_cast, ↓reduceIte, Nat.reduceEqDiff, Nat.reduceAdd, Nat.reduceLT, Nat.reduceLeDiff, Nat.reduceBEq, Nat.reduceMul, Nat.reduceSub, Int.reduceToNat, Int.reduceEq, Int.reduceLT, Int.reduceLE, Int.reduceNeg, Int.reduceAdd, Int.reduceSub, Int.reduceMul, Tryz.f10, kr10, kp10_12, kp10_4, ow10_12, ow10_4, ty3, ty4, ty22, ty25, ty31, ty34, ty63, ty65, tb4, g1, g4, g4', g4'', g5, g6, getD_of f2, getD_of d2, sb0 g2, sb1 g2, sb2 g2, sb3 g2, sb4 g2, c1', c2', w1, ih', ne_eq]
        · have ih' := i2 fun q => h ⟨hk, q⟩
          simp only [cast1, List.length_append, List.length_cons, List.length_nil, Nat.zero_add, Nat.add_zero, Int.natCast_zero, Int.natCast_add, Int.zero_add, ints_1, ints_0, ] at ih' ⊢
          rw [lp_eq lp10_12]
          simp (config := { maxSteps := 1000000 }) (disch := omega) only [push_cast, ↓reduceIte, Nat.reduceEqDiff, Nat.reduceAdd, Nat.reduceLT, Nat.reduceLeDiff, Nat.reduceBEq, Nat.reduceMul, Nat.reduceSub, Int.reduceToNat, Int.reduceEq, Int.reduceLT, Int.reduceLE, Int.reduceNeg, Int.reduceAdd, Int.reduceSub, Int.reduceMul, Tryz.f10, kr10, kp10_12, kp10_4, ow10_12, ow10_4, ty3, ty4, ty22, ty25, ty31, ty34, ty63, ty65, tb4, g1, g4, g4', g4'', g5, g6, getD_of f2, getD_of d2, sb0 g2, sb1 g2, sb2 g2, sb3 g2, sb4 g2, c1', c2', w1, ih', ne_eq]
    | false =>
      have hT : okT lo hi st := Decidable.byContradiction fun q => hx ⟨rfl, q⟩
      have hT' := hT
      obtain ⟨t1, t2, t3, t4⟩ := hT'
      have hC := c_Count lo hi st
      rw [if_pos hT, if_pos hT] at hC
      have hcn := cnt_bd hT
      have hcs := cnt_step hT
      have hw := way_st hs t3
      generalize hc : cnt lo hi st = c at *
      have hxn : SubQ.n (false, one, lo, hi, st) = c := hc
      have e1 : cutE ((false, one, lo, hi, st) :: r) = c :: cutE r := by simp [cutE, hxn]
      have e2 : cutS ((false, one, lo, hi, st) :: r) (s :: t) = (if 1 < c then s * st else s) :: cutS r t := by simp [cutS, SubQ.way, hxn]
      have e3 : bb + cutD ((false, one, lo, hi, st) :: r) (s :: t) = bb + (if 0 < c then lo else 0) * s + cutD r t := by simp [cutD, SubQ.at0, hxn]; omega
      have hk : SubQ.ok (false, one, lo, hi, st) n ↔ (0 < c → 0 ≤ mn lo (lo + (c - 1) * st) ∧ mx lo (lo + (c - 1) * st) ≤ n - 1) := by
        unfold SubQ.ok
        rw [if_neg (by simp), hxn]
        exact ⟨fun h => h.2, fun h => ⟨hT, h⟩⟩
      have a1 : es ++ [c] ++ cutE r = es ++ c :: cutE r := by simp
      have a2 : ∀ y, ss ++ [y] ++ cutS r t = ss ++ y :: cutS r t := fun y => by simp
      have w1 : IntKind.i64.wrap ((c - 1) * st) = (c - 1) * st := w64 (by omega) (by omega)
      have w2 : IntKind.i64.wrap (lo + (c - 1) * st) = lo + (c - 1) * st := w64 (by omega) (by omega)
      rw [e1, e2, e3]
      by_cases p0 : 0 < c
      · by_cases p1 : mn lo (lo + (c - 1) * st) < 0
        · have ho : ¬ cutOk ((false, one, lo, hi, st) :: r) (n :: q) := fun h => by have := (hk.1 h.1) p0; omega
          refine ⟨fun h => absurd h ho, fun _ => ?_⟩
          rw [lp_eq lp10_12]
          simp (config := { maxSteps := 1000000 }) (disch := omega) only [push_cast, ↓reduceIte, Nat.reduceEqDiff, Nat.reduceAdd, Nat.reduceLT, Nat.reduceLeDiff, Nat.reduceBEq, Nat.reduceMul, Nat.reduceSub, Int.reduceToNat, Int.reduceEq, Int.reduceLT, Int.reduceLE, Int.reduceNeg, Int.reduceAdd, Int.reduceSub, Int.reduceMul, Tryz.f10, kr10, kp10_12, kp10_4, ow10_12, ow10_4, ty3, ty4, ty22, ty25, ty31, ty34, ty63, ty65, tb4, g1, g4, g4', g4'', g5, g6, getD_of f2, getD_of d2, sb0 g2, sb1 g2, sb2 g2, sb3 g2, sb4 g2, hC, p0, p1, w1, w2, ne_eq]
        by_cases p2 : n - 1 < mx lo (lo + (c - 1) * st)
        · have ho : ¬ cutOk ((false, one, lo, hi, st) :: r) (n :: q) := fun h => by have := (hk.1 h.1) p0; omega
          refine ⟨fun h => absurd h ho, fun _ => ?_⟩
          rw [lp_eq lp10_12]
          simp (config := { maxSteps := 1000000 }) (disch := omega) only [push_cast, ↓reduceIte, Nat.reduceEqDiff, Nat.reduceAdd, Nat.reduceLT, Nat.reduceLeDiff, Nat.reduceBEq, Nat.reduceMul, Nat.reduceSub, Int.reduceToNat, Int.reduceEq, Int.reduceLT, Int.reduceLE, Int.reduceNeg, Int.reduceAdd, Int.reduceSub, Int.reduceMul, Tryz.f10, kr10, kp10_12, kp10_4, ow10_12, ow10_4, ty3, ty4, ty22, ty25, ty31, ty34, ty63, ty65, tb4, g1, g4, g4', g4'', g5, g6, getD_of f2, getD_of d2, sb0 g2, sb1 g2, sb2 g2, sb3 g2, sb4 g2, hC, p0, p1, p2, w1, w2, ne_eq]
        · have hk' : SubQ.ok (false, one, lo, hi, st) n := hk.2 fun _ => ⟨by omega, by omega⟩
          have hlo : 0 ≤ lo ∧ lo ≤ 3999 := by unfold mn at p1; unfold mx at p2; split at p1 <;> split at p2 <;> omega
          have hm := mul_bd (a := lo) (b := s) (A := 4000) (B := 2147483648) (by omega) (by omega) hs.1 hs.2
          have w3 : IntKind.i64.wrap (lo * s) = lo * s := w64 (by omega) (by omega)
          rw [if_pos p0]
          by_cases p3 : 1 < c
          · rw [if_pos p3]
            obtain ⟨i1, i2⟩ := ih q t (i + 1) (bb + lo * s) (es ++ [c]) (ss ++ [s * st]) g3 f3 d3 hb' (by simp; omega) (by simp; omega) (by omega) (by omega)
            rw [a1, a2] at i1
            refine ⟨fun h => ?_, fun h => ?_⟩
            · have ih' := i1 h.2
              simp only [cast1, List.length_append, List.length_cons, List.length_nil, Nat.zero_add, Nat.add_zero, Int.natCast_zero, Int.natCast_add, Int.zero_add, ints_1, ints_0, ] at ih' ⊢
              rw [lp_eq lp10_12]
              simp (config := { maxSteps := 1000000 }) (disch := omega) only [push_cast, ↓reduceIte, Nat.reduceEqDiff, Nat.reduceAdd, Nat.reduceLT, Nat.reduceLeDiff, Nat.reduceBEq, Nat.reduceMul, Nat.reduceSub, Int.reduceToNat, Int.reduceEq, Int.reduceLT, Int.reduceLE, Int.reduceNeg, Int.reduceAdd, Int.reduceSub, Int.reduceMul, Tryz.f10, kr10, kp10_12, kp10_4, ow10_12, ow10_4, ty3, ty4, ty22, ty25, ty31, ty34, ty63, ty65, tb4, g1, g4, g4', g4'', g5, g6, getD_of f2, getD_of d2, sb0 g2, sb1 g2, sb2 g2, sb3 g2, sb4 g2, hC, p0, p1, p2, p3, w1, w2, w3, hw, bs1, bs2, ih', ne_eq]
            · have ih' := i2 fun q => h ⟨hk', q⟩
              simp only [cast1, List.length_append, List.length_cons, List.length_nil, Nat.zero_add, Nat.add_zero, Int.natCast_zero, Int.natCast_add, Int.zero_add, ints_1, ints_0, ] at ih' ⊢
              rw [lp_eq lp10_12]
              simp (config := { maxSteps := 1000000 }) (disch := omega) only [push_cast, ↓reduceIte, Nat.reduceEqDiff, Nat.reduceAdd, Nat.reduceLT, Nat.reduceLeDiff, Nat.reduceBEq, Nat.reduceMul, Nat.reduceSub, Int.reduceToNat, Int.reduceEq, Int.reduceLT, Int.reduceLE, Int.reduceNeg, Int.reduceAdd, Int.reduceSub, Int.reduceMul, Tryz.f10, kr10, kp10_12, kp10_4, ow10_12, ow10_4, ty3, ty4, ty22, ty25, ty31, ty34, ty63, ty65, tb4, g1, g4, g4', g4'', g5, g6, getD_of f2, getD_of d2, sb0 g2, sb1 g2, sb2 g2, sb3 g2, sb4 g2, hC, p0, p1, p2, p3, w1, w2, w3, hw, bs1, bs2, ih', ne_eq]
          · rw [if_neg p3]
            obtain ⟨i1, i2⟩ := ih q t (i + 1) (bb + lo * s) (es ++ [c]) (ss ++ [s]) g3 f3 d3 hb' (by simp; omega) (by simp; omega) (by omega) (by omega)
            rw [a1, a2] at i1
            refine ⟨fun h => ?_, fun h => ?_⟩
            · have ih' := i1 h.2
              simp only [cast1, List.length_append, List.length_cons, List.length_nil, Nat.zero_add, Nat.add_zero, Int.natCast_zero, Int.natCast_add, Int.zero_add, ints_1, ints_0, ] at ih' ⊢
              rw [lp_eq lp10_12]
              simp (config := { maxSteps := 1000000 }) (disch := omega) only [push_cast, ↓reduceIte, Nat.reduceEqDiff, Nat.reduceAdd, Nat.reduceLT, Nat.reduceLeDiff, Nat.reduceBEq, Nat.reduceMul, Nat.reduceSub, Int.reduceToNat, Int.reduceEq, Int.reduceLT, Int.reduceLE, Int.reduceNeg, Int.reduceAdd, Int.reduceSub, Int.reduceMul, Tryz.f10, kr10, kp10_12, kp10_4, ow10_12, ow10_4, ty3, ty4, ty22, ty25, ty31, ty34, ty63, ty65, tb4, g1, g4, g4', g4'', g5, g6, getD_of f2, getD_of d2, sb0 g2, sb1 g2, sb2 g2, sb3 g2, sb4 g2, hC, p0, p1, p2, p3, w1, w2, w3, bs1, bs2, ih', ne_eq]
            · have ih' := i2 fun q => h ⟨hk', q⟩
              simp only [cast1, List.length_append, List.length_cons, List.length_nil, Nat.zero_add, Nat.add_zero, Int.natCast_zero, Int.natCast_add, Int.zero_add, ints_1, ints_0, ] at ih' ⊢
              rw [lp_eq lp10_12]
              simp (config := { maxSteps := 1000000 }) (disch := omega) only [push_cast, ↓reduceIte, Nat.reduceEqDiff, Nat.reduceAdd, Nat.reduceLT, Nat.reduceLeDiff, Nat.reduceBEq, Nat.reduceMul, Nat.reduceSub, Int.reduceToNat, Int.reduceEq, Int.reduceLT, Int.reduceLE, Int.reduceNeg, Int.reduceAdd, Int.reduceSub, Int.reduceMul, Tryz.f10, kr10, kp10_12, kp10_4, ow10_12, ow10_4, ty3, ty4, ty22, ty25, ty31, ty34, ty63, ty65, tb4, g1, g4, g4', g4'', g5, g6, getD_of f2, getD_of d2, sb0 g2, sb1 g2, sb2 g2, sb3 g2, sb4 g2, hC, p0, p1, p2, p3, w1, w2, w3, bs1, bs2, ih', ne_eq]
      · have hk' : SubQ.ok (false, one, lo, hi, st) n := hk.2 fun q => absurd q p0
        have p3 : ¬ 1 < c := by omega
        have hc0 : c = 0 := by omega
        subst hc0
        rw [if_neg p0, if_neg p3, Int.zero_mul, Int.add_zero]
        obtain ⟨i1, i2⟩ := ih q t (i + 1) bb (es ++ [0]) (ss ++ [s]) g3 f3 d3 hb' (by simp; omega) (by simp; omega) (by omega) (by omega)
        rw [a1, a2] at i1
        refine ⟨fun h => ?_, fun h => ?_⟩
        · have ih' := i1 h.2
          simp only [cast1, List.length_append, List.length_cons, List.length_nil, Nat.zero_add, Nat.add_zero, Int.natCast_zero, Int.natCast_add, Int.zero_add, ints_1, ints_0, ] at ih' ⊢
          rw [lp_eq lp10_12]
          simp (config := { maxSteps := 1000000 }) (disch := omega) only [push_cast, ↓reduceIte, Nat.reduceEqDiff, Nat.reduceAdd, Nat.reduceLT, Nat.reduceLeDiff, Nat.reduceBEq, Nat.reduceMul, Nat.reduceSub, Int.reduceToNat, Int.reduceEq, Int.reduceLT, Int.reduceLE, Int.reduceNeg, Int.reduceAdd, Int.reduceSub, Int.reduceMul, Tryz.f10, kr10, kp10_12, kp10_4, ow10_12, ow10_4, ty3, ty4, ty22, ty25, ty31, ty34, ty63, ty65, tb4, g1, g4, g4', g4'', g5, g6, getD_of f2, getD_of d2, sb0 g2, sb1 g2, sb2 g2, sb3 g2, sb4 g2, hC, Int.zero_mul, Int.add_zero, bs1, bs2, ih', ne_eq]
        · have ih' := i2 fun q => h ⟨hk', q⟩
          simp only [cast1, List.length_append, List.length_cons, List.length_nil, Nat.zero_add, Nat.add_zero, Int.natCast_zero, Int.natCast_add, Int.zero_add, ints_1, ints_0, ] at ih' ⊢
          rw [lp_eq lp10_12]
          simp (config := { maxSteps := 1000000 }) (disch := omega) only [push_cast, ↓reduceIte, Nat.reduceEqDiff, Nat.reduceAdd, Nat.reduceLT, Nat.reduceLeDiff, Nat.reduceBEq, Nat.reduceMul, Nat.reduceSub, Int.reduceToNat, Int.reduceEq, Int.reduceLT, Int.reduceLE, Int.reduceNeg, Int.reduceAdd, Int.reduceSub, Int.reduceMul, Tryz.f10, kr10, kp10_12, kp10_4, ow10_12, ow10_4, ty3, ty4, ty22, ty25, ty31, ty34, ty63, ty65, tb4, g1, g4, g4', g4'', g5, g6, getD_of f2, getD_of d2, sb0 g2, sb1 g2, sb2 g2, sb3 g2, sb4 g2, hC, Int.zero_mul, Int.add_zero, bs1, bs2, ih', ne_eq]
theorem ok_bad : ∀ {X : List SubQ} {E : List Int}, cutOk X E → ∀ x ∈ X, ¬ badS x
  | [], _, _, x, h => by simp at h
  | _ :: _, [], h, _, _ => h.elim
  | y :: X, n :: E, h, x, hx => by
    rcases List.mem_cons.1 hx with rfl | hx
    · rintro ⟨q1, q2⟩
      have := h.1
      unfold SubQ.ok at this
      rw [if_neg (by rw [q1]; simp)] at this
      exact q2 this.1
    · exact ok_bad h.2 x hx
theorem c_CutOk (h : okD base E S) (hb : base ≤ 2147483648) (hc : cutOk X E) : CALL 10 [Dsc base b1 c1 E b2 c2 S, SS b3 c3 X] =
    some (.tup [.agg [I (cutB base X E S), .sl 0 0 (cutE X).length 1 none, .sl 1 0 (cutS X S).length 1 none], I 0], [ints (cutE X), ints (cutS X S)]) := by
  have hl := cutOk_len hc
  obtain ⟨⟨x1, x1'⟩, x2, x3, x4, x5, x6⟩ := id h
  have hv := fun b c b' c' => c_Valid base b b' c c' E S (by omega) (by omega)
  have hz := fun b c => c_size b c E (by omega)
  rw [size_some ⟨h.1, h.2.1⟩] at hz
  have hl' : (X.length : Int) = E.length := by omega
  have h4 := (l_Cut4 base b1 b2 b3 c1 c2 c3 E S X (by omega) X 0 rfl).1 (ok_bad hc)
  have h12 := (l_Cut12 base b1 b2 b3 c1 c2 c3 E S X hl x1 x1' x3 x5 X E S 0 base [] [] rfl rfl rfl (ok_bad hc) (by simp) (by simp) (by omega) (by omega)).1 hc
  rw [List.nil_append, List.nil_append] at h12
  simp only [cast1, List.length_append, List.length_cons, List.length_nil, Nat.zero_add, Nat.add_zero, Int.natCast_zero, Int.natCast_add, Int.zero_add, ints_1, ints_0, ] at h4 h12
  simp only [hl'] at h4 h12
  unfold cutB
  by_cases hp : pr E = 0
  · rw [if_pos hp]
    refine lim_run (fn := Tryz.f10) fn10 rfl body10 (Nat.le_of_ble_eq_true rfl) ok10 ?_
    simp (config := { maxSteps := 1000000 }) (disch := omega) only [push_cast, ↓reduceIte, Nat.reduceEqDiff, Nat.reduceAdd, Nat.reduceLT, Nat.reduceLeDiff, Nat.reduceBEq, Nat.reduceMul, Nat.reduceSub, Int.reduceToNat, Int.reduceEq, Int.reduceLT, Int.reduceLE, Int.reduceNeg, Int.reduceAdd, Int.reduceSub, Int.reduceMul, Tryz.f10, kr10, kp10_12, kp10_4, ow10_12, ow10_4, ty3, ty4, ty22, ty25, ty31, ty34, ty63, ty65, tb4, hv, h, hz, hl', h4, h12, hp, ne_eq]
  · rw [if_neg hp]
    refine lim_run (fn := Tryz.f10) fn10 rfl body10 (Nat.le_of_ble_eq_true rfl) ok10 ?_
    simp (config := { maxSteps := 1000000 }) (disch := omega) only [push_cast, ↓reduceIte, Nat.reduceEqDiff, Nat.reduceAdd, Nat.reduceLT, Nat.reduceLeDiff, Nat.reduceBEq, Nat.reduceMul, Nat.reduceSub, Int.reduceToNat, Int.reduceEq, Int.reduceLT, Int.reduceLE, Int.reduceNeg, Int.reduceAdd, Int.reduceSub, Int.reduceMul, Tryz.f10, kr10, kp10_12, kp10_4, ow10_12, ow10_4, ty3, ty4, ty22, ty25, ty31, ty34, ty63, ty65, tb4, hv, h, hz, hl', h4, h12, hp, ne_eq]
end
theorem c_CutNo (base : Int) (b3 : Bool) (c3 : Option Nat) (E S : List Int) (X : List SubQ) (h : okD base E S) (hb : base ≤ 2147483648) (hX : (X.length : Int) ≤ 1000) (hc : ¬ cutOk X E) : ∃ e, e ≠ 0 ∧ ∀ (b1 : Bool) (c1 : Option Nat) (b2 : Bool) (c2 : Option Nat), CALL 10 [Dsc base b1 c1 E b2 c2 S, SS b3 c3 X] =
    some (.tup [.agg [I 0, .sl 0 0 0 1 none, .sl 1 0 0 1 none], I e], [[], []]) := by
  obtain ⟨⟨x1, x1'⟩, x2, x3, x4, x5, x6⟩ := id h
  have hv := fun b c b' c' => c_Valid base b b' c c' E S (by omega) (by omega)
  by_cases hl' : (X.length : Int) = E.length
  · by_cases hbad : ∃ x ∈ X, badS x
    · refine ⟨2, by decide, fun b1 c1 b2 c2 => ?_⟩
      have h4 := (l_Cut4 base b1 b2 b3 c1 c2 c3 E S X (by omega) X 0 rfl).2 hbad
      simp only [cast1, List.length_append, List.length_cons, List.length_nil, Nat.zero_add, Nat.add_zero, Int.natCast_zero, Int.natCast_add, Int.zero_add, ints_1, ints_0, ] at h4
      simp only [hl'] at h4
      refine lim_run (fn := Tryz.f10) fn10 rfl body10 (Nat.le_of_ble_eq_true rfl) ok10 ?_
      simp (config := { maxSteps := 1000000 }) (disch := omega) only [push_cast, ↓reduceIte, Nat.reduceEqDiff, Nat.reduceAdd, Nat.reduceLT, Nat.reduceLeDiff, Nat.reduceBEq, Nat.reduceMul, Nat.reduceSub, Int.reduceToNat, Int.reduceEq, Int.reduceLT, Int.reduceLE, Int.reduceNeg, Int.reduceAdd, Int.reduceSub, Int.reduceMul, Tryz.f10, kr10, kp10_12, kp10_4, ow10_12, ow10_4, ty3, ty4, ty22, ty25, ty31, ty34, ty63, ty65, tb4, hv, h, hl', h4, ne_eq]
    · have hbad' : ∀ x ∈ X, ¬ badS x := fun x hx q => hbad ⟨x, hx, q⟩
      refine ⟨92, by decide, fun b1 c1 b2 c2 => ?_⟩
      have h4 := (l_Cut4 base b1 b2 b3 c1 c2 c3 E S X (by omega) X 0 rfl).1 hbad'
      have h12 := (l_Cut12 base b1 b2 b3 c1 c2 c3 E S X (by omega) x1 x1' x3 x5 X E S 0 base [] [] rfl rfl rfl hbad' (by simp) (by simp) (by omega) (by omega)).2 hc
      simp only [cast1, List.length_append, List.length_cons, List.length_nil, Nat.zero_add, Nat.add_zero, Int.natCast_zero, Int.natCast_add, Int.zero_add, ints_1, ints_0, ] at h4 h12
      simp only [hl'] at h4 h12
      refine lim_run (fn := Tryz.f10) fn10 rfl body10 (Nat.le_of_ble_eq_true rfl) ok10 ?_
      simp (config := { maxSteps := 1000000 }) (disch := omega) only [push_cast, ↓reduceIte, Nat.reduceEqDiff, Nat.reduceAdd, Nat.reduceLT, Nat.reduceLeDiff, Nat.reduceBEq, Nat.reduceMul, Nat.reduceSub, Int.reduceToNat, Int.reduceEq, Int.reduceLT, Int.reduceLE, Int.reduceNeg, Int.reduceAdd, Int.reduceSub, Int.reduceMul, Tryz.f10, kr10, kp10_12, kp10_4, ow10_12, ow10_4, ty3, ty4, ty22, ty25, ty31, ty34, ty63, ty65, tb4, hv, h, hl', h4, h12, ne_eq]
  · refine ⟨2, by decide, fun b1 c1 b2 c2 => ?_⟩
    refine lim_run (fn := Tryz.f10) fn10 rfl body10 (Nat.le_of_ble_eq_true rfl) ok10 ?_
    simp (config := { maxSteps := 1000000 }) (disch := omega) only [push_cast, ↓reduceIte, Nat.reduceEqDiff, Nat.reduceAdd, Nat.reduceLT, Nat.reduceLeDiff, Nat.reduceBEq, Nat.reduceMul, Nat.reduceSub, Int.reduceToNat, Int.reduceEq, Int.reduceLT, Int.reduceLE, Int.reduceNeg, Int.reduceAdd, Int.reduceSub, Int.reduceMul, Tryz.f10, kr10, kp10_12, kp10_4, ow10_12, ow10_4, ty3, ty4, ty22, ty25, ty31, ty34, ty63, ty65, tb4, hv, h, hl', ne_eq]
end Go.Proofs.YtnbijiopcgfmfaaGreat.Tev
/- quadrattop.cut: a section of an array. -/
namespace Go.Proofs.YtnbijiopcgfmfaaGreat.Tev
open Go Go.RowKit Go.Proofs Go.Proofs.YtnbijiopcgfmfaaGreat.Q
set_option linter.unusedSectionVars false
set_option maxRecDepth 100000
set_option maxHeartbeats 0
set_option linter.unusedSimpArgs false
set_option linter.unusedVariables false
section
variable (k : Int) (b1 b2 b3 : Bool) (c1 c2 c3 : Option Nat) (sh el : List Int) (X : List SubQ)
theorem l_cut (bb : Int) (E S pl : List Int) (hp : pl.length ≤ 4000) (hin : ∀ p ∈ pl, 0 ≤ p ∧ p < el.length) (hel : (el.length : Int) ≤ 4000) :
    ∀ (r : List Int) (i : Nat) (st : List Int), pl.drop i = r → st.length = i →
      lp E0 pr0 6 10 ⟨[(2, .pt 0 0), (4, .pt 1 0), (5, .pt 2 0), (8, I 0), (9, .pt 5 0), (10, .sl 6 0 pl.length 1 none), (11, .pt 8 0), (12, I i)],
        [(0, .box [I k, SL b1 c1 sh.length (ints sh), SL b2 c2 el.length (ints el)]), (1, .box [I 0, .c (.s (some 0) 0 []), .c (.s (some 0) 0 [])]), (2, .box [I 0, .c (.s (some 0) 0 []), .c (.s (some 0) 0 [])]),
         (3, .fz (ints E)), (4, .fz (ints S)), (5, .box [I bb, .sl 3 0 E.length 1 none, .sl 4 0 S.length 1 none]), (6, .arr (ints pl) 6 1), (7, .arr (ints st) 7 1), (8, .box [I k, .sl 3 0 E.length 1 none, .sl 7 0 st.length 1 none])], 9⟩ =
      some (.exit 0, ⟨[(4, .pt 0 0), (5, .pt 1 0), (9, .pt 4 0), (11, .pt 6 0)],
        [(0, .box [I 0, .c (.s (some 0) 0 []), .c (.s (some 0) 0 [])]), (1, .box [I 0, .c (.s (some 0) 0 []), .c (.s (some 0) 0 [])]),
         (2, .fz (ints E)), (3, .fz (ints S)), (4, .box [I bb, .sl 2 0 E.length 1 none, .sl 3 0 S.length 1 none]), (5, .arr (ints (st ++ picks el r)) 5 1), (6, .box [I k, .sl 2 0 E.length 1 none, .sl 5 0 (st ++ picks el r).length 1 none])], 7⟩) := by
  intro r
  induction r with
  | nil =>
    intro i st h1 h2
    have h3 := drop_nil h1
    have h4 : ¬ (i : Int) < pl.length := by omega
    have e : picks el [] = [] := rfl
    rw [e]
    rw [lp_eq lp6_10]
    simp (config := { maxSteps := 1000000 }) (disch := omega) only [push_cast, ↓reduceIte, Nat.reduceEqDiff, Nat.reduceAdd, Nat.reduceLT, Nat.reduceLeDiff, Nat.reduceBEq, Nat.reduceMul, Nat.reduceSub, Int.reduceToNat, Int.reduceEq, Int.reduceLT, Int.reduceLE, Int.reduceNeg, Int.reduceAdd, Int.reduceSub, Int.reduceMul, Tryz.f6, kr6, kp6_10, ow6_10, ty3, ty4, ty22, ty24, ty31, tb4, h4, List.append_nil]
  | cons p r ih =>
    intro i st h1 h2
    obtain ⟨g1, g2, g3⟩ := drop_cons h1
    have g4 : (i : Int) < pl.length := by omega
    obtain ⟨p0, p1⟩ := hin p (List.mem_of_getElem? g2)
    have n0 : ¬ p < 0 := by omega
    have n1 : ¬ (el.length : Int) ≤ p := by omega
    have gp : el[p.toNat]? = some (el.getD p.toNat 0) := by
      have : p.toNat < el.length := by omega
      rw [List.getD_eq_getElem?_getD, List.getElem?_eq_getElem this]; rfl
    have e : picks el (p :: r) = el.getD p.toNat 0 :: picks el r := rfl
    have pn : p = ((p.toNat : Nat) : Int) := by omega
    have ih' := ih (i + 1) (st ++ [el.getD p.toNat 0]) g3 (by simp [h2])
    rw [List.append_assoc, List.singleton_append, ← e] at ih'
    have hb : (st.length + 1) * 8 ≤ 140737488355328 := by omega
    simp only [cast1, List.length_append, List.length_cons, List.length_nil, Nat.zero_add, Nat.add_zero, Int.natCast_zero, Int.natCast_add, Int.zero_add, ints_1, ints_0, ] at ih'
    generalize el.getD p.toNat 0 = y at *
    generalize p.toNat = pn' at *
    subst pn
    have hl : pn' < el.length := by omega
    rw [lp_eq lp6_10]
    simp (config := { maxSteps := 1000000 }) (disch := omega) only [push_cast, ↓reduceIte, Nat.reduceEqDiff, Nat.reduceAdd, Nat.reduceLT, Nat.reduceLeDiff, Nat.reduceBEq, Nat.reduceMul, Nat.reduceSub, Int.reduceToNat, Int.reduceEq, Int.reduceLT, Int.reduceLE, Int.reduceNeg, Int.reduceAdd, Int.reduceSub, Int.reduceMul, Tryz.f6, kr6, kp6_10, ow6_10, ty3, ty4, ty22, ty24, ty31, tb4, g1, g4, getD_of g2, n0, n1, p1, hl, getD_of gp, hb, ih', ne_eq]
theorem okA_E (h : okA k sh el) : okE sh ∧ (prN sh = el.length) := by
  obtain ⟨_, h2, _⟩ := h
  have hE : okE sh := Decidable.byContradiction fun q => by have := size_neg.2 q; omega
  refine ⟨hE, ?_⟩
  rw [size_some hE] at h2
  have := prN_pr fun e he => (hE.1.2 e he).1
  omega
theorem c_cutOk (h : okA k sh el) (hel : el.length ≤ 4000) (hc : cutOk X sh) : CALL 6 [Ar k b1 c1 sh b2 c2 el, SS b3 c3 X] =
    some (.tup [.agg [I k, .c (.s none (cutE X).length (ints (cutE X))), .sl 0 0 (picks el (placesQ (cB X sh) (cutE X) (cS X sh))).length 1 none],
      .agg [I (cB X sh), .c (.s none (cutE X).length (ints (cutE X))), .c (.s none (cS X sh).length (ints (cS X sh)))], B true], [ints (picks el (placesQ (cB X sh) (cutE X) (cS X sh)))]) := by
  obtain ⟨hE, hp⟩ := okA_E k sh el h
  have hl3 := hE.1.1
  have hW := c_Whole b1 c1 sh (by omega)
  rw [show wholeE sh = sh from if_pos hE, show wholeT sh = wholeS 1 sh from if_pos hE, show errE sh = 0 from if_pos hE] at hW
  have hC := fun b c b' c' => c_CutOk 0 b b' b3 c c' c3 sh (wholeS 1 sh) X (whole_okD hE).1 (by omega) hc
  obtain ⟨hd, _⟩ := whole_cut hE hc
  have hl1 := hd.1.1
  have hl2 := hd.2.2.1
  have hP := fun b c b' c' => c_Places (cB X sh) b b' c c' (cutE X) (cS X sh) (by omega) (by omega)
  rw [show errD (cB X sh) (cutE X) (cS X sh) = 0 from if_pos hd] at hP
  have hL := l_cut k b1 b2 c1 c2 sh el (cB X sh) (cutE X) (cS X sh) (placesQ (cB X sh) (cutE X) (cS X sh)) (placesQ_len _ _ _) (fun p q => by have := whole_in hE hc q; omega) (by omega) _ 0 [] rfl rfl
  rw [List.nil_append] at hL
  simp only [cast1, List.length_append, List.length_cons, List.length_nil, Nat.zero_add, Nat.add_zero, Int.natCast_zero, Int.natCast_add, Int.zero_add, ints_1, ints_0, ] at hL
  show CALL 6 [.agg [I k, SL b1 c1 sh.length (ints sh), SL b2 c2 el.length (ints el)], SS b3 c3 X] = _
  generalize placesQ (cB X sh) (cutE X) (cS X sh) = pl at *
  refine lim_run (fn := Tryz.f6) fn6 rfl body6 (Nat.le_of_ble_eq_true rfl) ok6 ?_
  simp (config := { maxSteps := 1000000 }) (disch := omega) only [push_cast, ↓reduceIte, Nat.reduceEqDiff, Nat.reduceAdd, Nat.reduceLT, Nat.reduceLeDiff, Nat.reduceBEq, Nat.reduceMul, Nat.reduceSub, Int.reduceToNat, Int.reduceEq, Int.reduceLT, Int.reduceLE, Int.reduceNeg, Int.reduceAdd, Int.reduceSub, Int.reduceMul, Tryz.f6, kr6, kp6_10, ow6_10, ty3, ty4, ty22, ty24, ty31, tb4, hW, hC, hP, hL, ne_eq]
theorem c_cutNo (h : okA k sh el) (hX : (X.length : Int) ≤ 1000) (hc : ¬ cutOk X sh) : CALL 6 [Ar k b1 c1 sh b2 c2 el, SS b3 c3 X] =
    some (.tup [.agg [I 0, .sl 0 0 0 1 none, .sl 1 0 0 1 none], .agg [I 0, .sl 2 0 0 1 none, .sl 3 0 0 1 none], B false], [[], [], [], []]) := by
  obtain ⟨hE, hp⟩ := okA_E k sh el h
  have hl3 := hE.1.1
  have hW := c_Whole b1 c1 sh (by omega)
  rw [show wholeE sh = sh from if_pos hE, show wholeT sh = wholeS 1 sh from if_pos hE, show errE sh = 0 from if_pos hE] at hW
  have hC := c_CutNo 0 b3 c3 sh (wholeS 1 sh) X (whole_okD hE).1 (by omega) hX hc
  obtain ⟨e, he, hC⟩ := hC
  refine lim_run (fn := Tryz.f6) fn6 rfl body6 (Nat.le_of_ble_eq_true rfl) ok6 ?_
  simp (config := { maxSteps := 1000000 }) (disch := omega) only [push_cast, ↓reduceIte, Nat.reduceEqDiff, Nat.reduceAdd, Nat.reduceLT, Nat.reduceLeDiff, Nat.reduceBEq, Nat.reduceMul, Nat.reduceSub, Int.reduceToNat, Int.reduceEq, Int.reduceLT, Int.reduceLE, Int.reduceNeg, Int.reduceAdd, Int.reduceSub, Int.reduceMul, Tryz.f6, kr6, kp6_10, ow6_10, ty3, ty4, ty22, ty24, ty31, tb4, hW, hC, he, ne_eq]
end
end Go.Proofs.YtnbijiopcgfmfaaGreat.Tev
/- Awake: products and sums of small integers, the function of matmul. -/
namespace Go.Proofs.YtnbijiopcgfmfaaGreat.Tev
open Go Go.RowKit Go.Proofs Go.Proofs.YtnbijiopcgfmfaaGreat.Q
set_option linter.unusedSectionVars false
set_option maxRecDepth 100000
set_option maxHeartbeats 0
set_option linter.unusedSimpArgs false
set_option linter.unusedVariables false
theorem a_intOk (n : Int) (h : -2147483647 ≤ n ∧ n ≤ 2147483647) : CALL 71 [I n] = some (.tup [Vl 1 n, I 0], []) := by
  have hf := a_fits 1 n
  rw [decide_eq_true (show fitsQ 1 n from .inl ⟨rfl, h⟩)] at hf
  refine lim_run (fn := Tryz.f71) fn71 rfl body71 (Nat.le_of_ble_eq_true rfl) ok71 ?_
  simp (config := { maxSteps := 1000000 }) (disch := omega) only [push_cast, ↓reduceIte, Nat.reduceEqDiff, Nat.reduceAdd, Nat.reduceLT, Nat.reduceLeDiff, Nat.reduceBEq, Nat.reduceMul, Nat.reduceSub, Int.reduceToNat, Int.reduceEq, Int.reduceLT, Int.reduceLE, Int.reduceNeg, Int.reduceAdd, Int.reduceSub, Int.reduceMul, Tryz.f71, kr71, ty3, ty34, ty38, hf]
theorem a_toI (a : Int) : CALL 70 [I 1, Vl 1 a] = some (.tup [Vl 1 a, I 0], []) := by
  refine lim_run (fn := Tryz.f70) fn70 rfl body70 (Nat.le_of_ble_eq_true rfl) ok70 ?_
  simp (config := { maxSteps := 1000000 }) (disch := omega) only [push_cast, ↓reduceIte, Nat.reduceEqDiff, Nat.reduceAdd, Nat.reduceLT, Nat.reduceLeDiff, Nat.reduceBEq, Nat.reduceMul, Nat.reduceSub, Int.reduceToNat, Int.reduceEq, Int.reduceLT, Int.reduceLE, Int.reduceNeg, Int.reduceAdd, Int.reduceSub, Int.reduceMul, Tryz.f70, kr70, ty3, ty34, ty38]
theorem s_mulI (a b : Int) (h : -2147483647 ≤ a * b ∧ a * b ≤ 2147483647) : CALL1 23 [Str ⟨#[42]⟩, Vl 1 a, Vl 1 b] = some (.tup [Vl 1 (a * b), I 0], []) := by
  have d2 : ¬ (⟨#[42]⟩ : ByteArray) = ⟨#[43]⟩ := by decide
  have d3 : ¬ (⟨#[42]⟩ : ByteArray) = ⟨#[45]⟩ := by decide
  have d4 : ¬ (⟨#[42]⟩ : ByteArray) = ⟨#[46, 97, 110, 100, 46]⟩ := by decide
  have d5 : ¬ (⟨#[42]⟩ : ByteArray) = ⟨#[46, 111, 114, 46]⟩ := by decide
  have w : IntKind.i64.wrap (a * b) = a * b := w64 (by omega) (by omega)
  have hr : CALL 46 [Str ⟨#[42]⟩, Vl 1 a, Vl 1 b] = some (.tup [Vl 1 (a * b), I 0], []) := by
    have ha := a_toI a
    have hb := a_toI b
    have hK : mx 1 1 = 1 := rfl
    have hi := a_intOk (a * b) h
    refine lim_run (fn := Tryz.f46) fn46 rfl body46 (Nat.le_of_ble_eq_true rfl) ok46 ?_
    simp (config := { maxSteps := 1000000 }) (disch := omega) only [push_cast, ↓reduceIte, Nat.reduceEqDiff, Nat.reduceAdd, Nat.reduceLT, Nat.reduceLeDiff, Nat.reduceBEq, Nat.reduceMul, Nat.reduceSub, Int.reduceToNat, Int.reduceEq, Int.reduceLT, Int.reduceLE, Int.reduceNeg, Int.reduceAdd, Int.reduceSub, Int.reduceMul, Tryz.f46, kr46, ty3, ty9, ty34, ty38, ty102, ty103, hK, ha, hb, hi, w, d2, d3]
  have hr1 := s_reckonI ⟨#[42]⟩ (by simp [ariL, sMul]) a b hr
  refine lim_run (fn := Tryz.f23) fn23 (pr1_none (by decide) _) body23 (Nat.le_of_ble_eq_true rfl) ok23 ?_
  simp (config := { maxSteps := 1000000 }) (disch := omega) only [push_cast, ↓reduceIte, Nat.reduceEqDiff, Nat.reduceAdd, Nat.reduceLT, Nat.reduceLeDiff, Nat.reduceBEq, Nat.reduceMul, Nat.reduceSub, Int.reduceToNat, Int.reduceEq, Int.reduceLT, Int.reduceLE, Int.reduceNeg, Int.reduceAdd, Int.reduceSub, Int.reduceMul, Tryz.f23, kr23, ty3, ty34, ty38, hr1, d2, d3, d4, d5]
theorem s_addI (a b : Int) (h : -2147483647 ≤ a + b ∧ a + b ≤ 2147483647) : CALL1 23 [Str ⟨#[43]⟩, Vl 1 a, Vl 1 b] = some (.tup [Vl 1 (a + b), I 0], []) := by
  have d4 : ¬ (⟨#[43]⟩ : ByteArray) = ⟨#[46, 97, 110, 100, 46]⟩ := by decide
  have d5 : ¬ (⟨#[43]⟩ : ByteArray) = ⟨#[46, 111, 114, 46]⟩ := by decide
  have w : IntKind.i64.wrap (a + b) = a + b := w64 (by omega) (by omega)
  have hr : CALL 46 [Str ⟨#[43]⟩, Vl 1 a, Vl 1 b] = some (.tup [Vl 1 (a + b), I 0], []) := by
    have ha := a_toI a
    have hb := a_toI b
    have hK : mx 1 1 = 1 := rfl
    have hi := a_intOk (a + b) h
    refine lim_run (fn := Tryz.f46) fn46 rfl body46 (Nat.le_of_ble_eq_true rfl) ok46 ?_
    simp (config := { maxSteps := 1000000 }) (disch := omega) only [push_cast, ↓reduceIte, Nat.reduceEqDiff, Nat.reduceAdd, Nat.reduceLT, Nat.reduceLeDiff, Nat.reduceBEq, Nat.reduceMul, Nat.reduceSub, Int.reduceToNat, Int.reduceEq, Int.reduceLT, Int.reduceLE, Int.reduceNeg, Int.reduceAdd, Int.reduceSub, Int.reduceMul, Tryz.f46, kr46, ty3, ty9, ty34, ty38, ty102, ty103, hK, ha, hb, hi, w]
  have hr1 := s_reckonI ⟨#[43]⟩ (by simp [ariL, sAdd]) a b hr
  refine lim_run (fn := Tryz.f23) fn23 (pr1_none (by decide) _) body23 (Nat.le_of_ble_eq_true rfl) ok23 ?_
  simp (config := { maxSteps := 1000000 }) (disch := omega) only [push_cast, ↓reduceIte, Nat.reduceEqDiff, Nat.reduceAdd, Nat.reduceLT, Nat.reduceLeDiff, Nat.reduceBEq, Nat.reduceMul, Nat.reduceSub, Int.reduceToNat, Int.reduceEq, Int.reduceLT, Int.reduceLE, Int.reduceNeg, Int.reduceAdd, Int.reduceSub, Int.reduceMul, Tryz.f23, kr23, ty3, ty34, ty38, hr1, d4, d5]
theorem a_number0 : CALL 82 [I 1, I 0] = some (Vl 1 0, []) := by
  have h := a_toI 0
  refine lim_run (fn := Tryz.f82) fn82 rfl body82 (Nat.le_of_ble_eq_true rfl) ok82 ?_
  simp (config := { maxSteps := 1000000 }) (disch := omega) only [push_cast, ↓reduceIte, Nat.reduceEqDiff, Nat.reduceAdd, Nat.reduceLT, Nat.reduceLeDiff, Nat.reduceBEq, Nat.reduceMul, Nat.reduceSub, Int.reduceToNat, Int.reduceEq, Int.reduceLT, Int.reduceLE, Int.reduceNeg, Int.reduceAdd, Int.reduceSub, Int.reduceMul, Tryz.f82, kr82, ty3, ty38, h]
abbrev IntU (n : Int) : T := .rb [.c (CI n)] 0
def awN (i : Nat) : Int := if i = 0 then 23 else 34
theorem s_mm1 (i : Nat) (hi : i < 2) : CALL1 85 [I i, IntU 2, IntU 1, IntU 2, ArU 1 true none [2, 2] true none [1, 2, 3, 4], ArU 1 true none [2] true none [5, 6]] = some (.tup [Vl 1 (awN i), I 0], []) := by
  have n0 := old1 (by decide) a_number0
  have x0 : CALL1 24 [.agg [I 1, SL true none 2 (ints [2, 2]), SL true none 4 (ints [1, 2, 3, 4])], I 0] = some (Vl 1 1, []) := old1 (by decide) (a_at 1 true true none none [2, 2] [1, 2, 3, 4] (by simp) (by simp) 0 1 rfl)
  have x1 : CALL1 24 [.agg [I 1, SL true none 2 (ints [2, 2]), SL true none 4 (ints [1, 2, 3, 4])], I 1] = some (Vl 1 2, []) := old1 (by decide) (a_at 1 true true none none [2, 2] [1, 2, 3, 4] (by simp) (by simp) 1 2 rfl)
  have x2 : CALL1 24 [.agg [I 1, SL true none 2 (ints [2, 2]), SL true none 4 (ints [1, 2, 3, 4])], I 2] = some (Vl 1 3, []) := old1 (by decide) (a_at 1 true true none none [2, 2] [1, 2, 3, 4] (by simp) (by simp) 2 3 rfl)
  have x3 : CALL1 24 [.agg [I 1, SL true none 2 (ints [2, 2]), SL true none 4 (ints [1, 2, 3, 4])], I 3] = some (Vl 1 4, []) := old1 (by decide) (a_at 1 true true none none [2, 2] [1, 2, 3, 4] (by simp) (by simp) 3 4 rfl)
  have y0 : CALL1 24 [.agg [I 1, SL true none 1 [CI 2], SL true none 2 (ints [5, 6])], I 0] = some (Vl 1 5, []) := old1 (by decide) (a_at 1 true true none none [2] [5, 6] (by simp) (by simp) 0 5 rfl)
  have y1 : CALL1 24 [.agg [I 1, SL true none 1 [CI 2], SL true none 2 (ints [5, 6])], I 1] = some (Vl 1 6, []) := old1 (by decide) (a_at 1 true true none none [2] [5, 6] (by simp) (by simp) 1 6 rfl)
  have q0 : awN 0 = 23 := rfl
  have q1 : awN 1 = 34 := rfl
  have t1 : Int.tmod 0 2 = 0 := rfl
  have t2 : Int.tdiv 0 2 = 0 := rfl
  have t3 : Int.tmod 1 2 = 1 := rfl
  have t4 : Int.tdiv 1 2 = 0 := rfl
  have m1 := s_mulI 1 5 (by omega)
  have m2 := s_mulI 3 6 (by omega)
  have m3 := s_mulI 2 5 (by omega)
  have m4 := s_mulI 4 6 (by omega)
  have p1 := s_addI 0 5 (by omega)
  have p2 := s_addI 5 18 (by omega)
  have p3 := s_addI 0 10 (by omega)
  have p4 := s_addI 10 24 (by omega)
  simp only [Int.reduceMul, Int.reduceAdd] at m1 m2 m3 m4 p1 p2 p3 p4
  have hi2 : i = 0 ∨ i = 1 := by omega
  rcases hi2 with rfl | rfl
  · refine lim_run (fn := Tryz.f85) fn85 (pr1_none (by decide) _) body85 (Nat.le_of_ble_eq_true rfl) ok85 ?_
    simp (config := { maxSteps := 1000000 }) (disch := omega) only [push_cast, ↓reduceIte, Nat.reduceEqDiff, Nat.reduceAdd, Nat.reduceLT, Nat.reduceLeDiff, Nat.reduceBEq, Nat.reduceMul, Nat.reduceSub, Int.reduceToNat, Int.reduceEq, Int.reduceLT, Int.reduceLE, Int.reduceNeg, Int.reduceAdd, Int.reduceSub, Int.reduceMul, Tryz.f85, kr85, kp85_4, ow85_4, ty3, ty22, ty24, ty34, ty38, n0, x0, x1, x2, x3, y0, y1, m1, m2, m3, m4, p1, p2, p3, p4, bin_rem, bin_quo, q0, q1, t1, t2, t3, t4, fun S0 => lp_eq (S0 := S0) (pr := pr1) lp85_4, ne_eq]
  · refine lim_run (fn := Tryz.f85) fn85 (pr1_none (by decide) _) body85 (Nat.le_of_ble_eq_true rfl) ok85 ?_
    simp (config := { maxSteps := 1000000 }) (disch := omega) only [push_cast, ↓reduceIte, Nat.reduceEqDiff, Nat.reduceAdd, Nat.reduceLT, Nat.reduceLeDiff, Nat.reduceBEq, Nat.reduceMul, Nat.reduceSub, Int.reduceToNat, Int.reduceEq, Int.reduceLT, Int.reduceLE, Int.reduceNeg, Int.reduceAdd, Int.reduceSub, Int.reduceMul, Tryz.f85, kr85, kp85_4, ow85_4, ty3, ty22, ty24, ty34, ty38, n0, x0, x1, x2, x3, y0, y1, m1, m2, m3, m4, p1, p2, p3, p4, bin_rem, bin_quo, q0, q1, t1, t2, t3, t4, fun S0 => lp_eq (S0 := S0) (pr := pr1) lp85_4, ne_eq]
end Go.Proofs.YtnbijiopcgfmfaaGreat.Tev
/- A region whose order is drawn, told by an invariant of what was executed. -/
namespace Go.Proofs.YtnbijiopcgfmfaaGreat.Tev
open Go Go.RowKit
set_option linter.unusedSectionVars false
set_option linter.unusedVariables false
set_option linter.unusedSimpArgs false
theorem any_gen {P : Program} {ops : Array Oper} {Q : Exit → Act → World → Prop} (I : (Nat → Bool) → Act → World → Prop)
    (hdown : (ops.toList.zipIdx.all fun (o, i) => o.after.toList.all fun e => !Region.binds .any e || decide (e.on < i)) = true)
    (hstep : ∀ L a w i, I L a w → i < ops.size → L i = false → (∀ o, ops[i]? = some o → ∀ e ∈ o.after.toList, Region.binds .any e = true → L e.on = true) →
      ∀ next : Act → World → Prop, (∀ a' w', I (fun j => j == i || L j) a' w' → next a' w') → ∃ o, ops[i]? = some o ∧ o.guard = none ∧ o.wp P a w next Q)
    (hend : ∀ L a w, I L a w → (∀ k, k < ops.size → L k = true) → Q .normal a w) :
    ∀ (fuel : Nat) (listed : Array Bool) (a : Act) (w : World), I (fun j => listed.getD j false) a w → listed.size = ops.size →
      ((List.range ops.size).filter (fun k => !listed.getD k true)).length ≤ fuel → wpAny P .any ops Q fuel listed a w := by
  have down : ∀ i o, ops[i]? = some o → ∀ e ∈ o.after.toList, Region.binds .any e = true → e.on < i := by
    intro i o hi e he hb
    simp only [List.all_eq_true] at hdown
    have := hdown (o, i) (List.mem_zipIdx_iff_getElem?.2 (by simpa using hi))
    simp only [List.all_eq_true] at this
    have := this e he
    simpa [hb] using this
  have getT : ∀ {listed : Array Bool} {k : Nat} (d d' : Bool), k < listed.size → listed.getD k d = listed.getD k d' := fun d d' hk => by
    rw [Array.getD_eq_getD_getElem?, Array.getD_eq_getD_getElem?, Array.getElem?_eq_getElem hk]; rfl
  have done : ∀ {listed : Array Bool} {a : Act} {w : World}, I (fun j => listed.getD j false) a w → listed.size = ops.size → Region.ready .any ops listed = [] → Q .normal a w := by
    intro listed a w h hs hr
    refine hend _ a w h ?_
    intro k
    induction k using Nat.strongRecOn with
    | _ k ih =>
      intro hk
      have hk' : ops[k]? = some ops[k] := Array.getElem?_eq_getElem hk
      cases hl : listed.getD k false with
      | true => rfl
      | false =>
        exfalso
        have : k ∈ Region.ready .any ops listed := by
          simp only [Region.ready, List.mem_filter, List.mem_range, Bool.and_eq_true, Bool.not_eq_true']
          refine ⟨hk, (getT true false (by omega)).trans hl, ?_⟩
          rw [hk']
          simp only [Option.map_some, Option.getD_some, Array.all_eq_true', Bool.or_eq_true, Bool.not_eq_true']
          intro e he
          cases hb : Region.binds .any e with
          | false => exact .inl rfl
          | true =>
            have hlt := down k _ hk' e (by simpa using he) hb
            exact .inr (ih _ hlt (by omega))
        rw [hr] at this; simp at this
  intro fuel
  induction fuel with
  | zero =>
    intro listed a w h hs hf
    have hr : Region.ready .any ops listed = [] := by
      rw [List.eq_nil_iff_forall_not_mem]
      intro k hk
      simp only [Region.ready, List.mem_filter, Bool.and_eq_true] at hk
      have : k ∈ (List.range ops.size).filter (fun k => !listed.getD k true) := List.mem_filter.2 ⟨hk.1, hk.2.1⟩
      have h0 := List.eq_nil_of_length_eq_zero (Nat.le_zero.1 hf)
      rw [h0] at this; simp at this
    exact ⟨hr, done h hs hr⟩
  | succ fuel ih =>
    intro listed a w h hs hf
    refine ⟨done h hs, fun i hi => ?_⟩
    simp only [Region.ready, List.mem_filter, List.mem_range, Bool.and_eq_true, Bool.not_eq_true'] at hi
    obtain ⟨hilt, hil, hia⟩ := hi
    have hi' : ops[i]? = some ops[i] := Array.getElem?_eq_getElem hilt
    obtain ⟨o, h1, h2, h3⟩ := hstep (fun j => listed.getD j false) a w i h hilt ((getT false true (by omega)).trans hil) (fun o ho e he hb => by
      rw [hi'] at ho
      obtain rfl := Option.some.inj ho
      rw [hi'] at hia
      simp only [Option.map_some, Option.getD_some, Array.all_eq_true', Bool.or_eq_true, Bool.not_eq_true'] at hia
      rcases hia e (by simpa using he) with h3 | h3
      · rw [hb] at h3; simp at h3
      · exact h3) (wpAny P .any ops Q fuel (listed.setIfInBounds i true)) fun a' w' hI => by
        refine ih _ a' w' ?_ (by simpa using hs) ?_
        · have e : (fun j => (listed.setIfInBounds i true).getD j false) = fun j => j == i || listed.getD j false := by
            funext j
            rw [Array.getD_eq_getD_getElem?, Array.getD_eq_getD_getElem?, Array.getElem?_setIfInBounds]
            by_cases e : i = j
            · subst e; simp [show i < listed.size by omega]
            · simp [e, Ne.symm e]
          rw [e]; exact hI
        · have hfe : (List.range ops.size).filter (fun k => !(listed.setIfInBounds i true).getD k true) = ((List.range ops.size).filter (fun k => !listed.getD k true)).filter (fun k => decide (k ≠ i)) := by
            rw [List.filter_filter]
            refine List.filter_congr fun k hk => ?_
            rw [Array.getD_eq_getD_getElem?, Array.getD_eq_getD_getElem?, Array.getElem?_setIfInBounds]
            by_cases e : i = k
            · subst e; simp [show i < listed.size by omega]
            · simp [e, Ne.symm e]
          rw [hfe]
          have : (((List.range ops.size).filter (fun k => !listed.getD k true)).filter (fun k => decide (k ≠ i))).length < ((List.range ops.size).filter (fun k => !listed.getD k true)).length :=
            List.length_filter_lt_length_iff_exists.2 ⟨i, List.mem_filter.2 ⟨by simpa using hilt, by simp [hil]⟩, by simp⟩
          omega
    unfold wpOp
    rw [h1]
    simp only
    rw [if_pos (by simp [Region.wanted, h2])]
    exact .inl h3
variable {m : Nat} {w0 : World} {F0 : Nat → Prop}
theorem Inv.weak {K : Ctx} {S S' : St} {ac : Act} (h : Inv m w0 F0 K S ac) (ht : ∀ t, get S'.t t = get S.t t ∨ get S'.t t = .junk) (hn : S'.n = S.n) (ho : ∀ q, obj S'.o q = obj S.o q) : Inv m w0 F0 K S' ac := { h with
  tm := fun t => by
    rcases ht t with h1 | h1
    · rw [h1]; exact h.tm t
    · rw [h1]; simp only [RT]
  oi := (show obj S'.o = obj S.o from funext ho) ▸ h.oi
  fresh := fun o hh => h.fresh o (by omega)
  grp := fun o l g e hh => by rw [ho] at hh; rw [hn]; exact h.grp o l g e hh }
/-- A drawn region as a piece of a walk: an invariant on the states. -/
theorem walk_free {E : Env} (hm : E.P.follows .mixedOrders = true) {cl : FuncId → List T → Option R} (hcl : CallOK E.P cl) {id : Nat} {ops : Array Oper} {S0 : St} {l : List Code} {Qw : Ex → St → Prop} (Rel : (Nat → Bool) → St → Prop)
    (hdown : (ops.toList.zipIdx.all fun (o, i) => o.after.toList.all fun e => !Region.binds .any e || decide (e.on < i)) = true)
    (hguard : (ops.toList.all fun o => o.guard.isNone && (match o.dst with | some d => decide (d < m) | none => true)) = true)
    (h0 : Rel (fun _ => false) S0)
    (hstep : ∀ L S i o, Rel L S → ops[i]? = some o → L i = false → (∀ e ∈ o.after.toList, Region.binds .any e = true → L e.on = true) → ∃ S1, opA E cl true S o = some S1 ∧ Rel (fun j => j == i || L j) S1)
    (hend : ∀ L S, Rel L S → (∀ k, k < ops.size → L k = true) → ∃ S1, (∀ t, get S1.t t = get S.t t ∨ get S1.t t = .junk) ∧ S1.n = S.n ∧ (∀ q, obj S1.o q = obj S.o q) ∧ WalkL E.P m w0 F0 l S1 Qw) :
    WalkL E.P m w0 F0 (.region id ops true :: l) S0 Qw := by
  intro K ac hi R hR
  refine wp_region_any hm ?_
  have hgd : ∀ (i : Nat) (o : Oper), ops[i]? = some o → o.guard = none ∧ ∀ t, o.dst = some t → t < m := fun i o ho => by
    have := List.all_eq_true.1 hguard o (List.mem_of_getElem? (by simpa using ho))
    simp only [Bool.and_eq_true] at this
    refine ⟨by simpa using this.1, fun t ht => ?_⟩
    have := this.2
    rw [ht] at this
    simpa using this
  have key := any_gen (P := E.P) (ops := ops) (Q := R) (fun L a w => ∃ S K', K'.w = w ∧ Inv m w0 F0 K' S a ∧ Rel L S) hdown
    (fun L a w i ⟨S, K', hw, hiv, hr⟩ hil hLi hedge next hnext => by
      have hi' : ops[i]? = some ops[i] := Array.getElem?_eq_getElem hil
      obtain ⟨S1, h1, h2⟩ := hstep L S i _ hr hi' hLi (hedge _ hi')
      subst hw
      exact ⟨_, hi', (hgd i _ hi').1, opA_sound hcl hiv (hgd i _ hi').2 h1 fun K2 a2 hi2 => hnext a2 K2.w ⟨S1, K2, rfl, hi2, h2⟩⟩)
    (fun L a w ⟨S, K', hw, hiv, hr⟩ hall => by
      subst hw
      obtain ⟨S1, h1, h2, h3, h4⟩ := hend L S hr hall
      exact hR .nor S1 K' a (hiv.weak h1 h2 h3) h4)
  have e : (fun j => (Array.replicate ops.size false).getD j false) = fun _ => false := by
    funext j
    rw [Array.getD_eq_getD_getElem?, Array.getElem?_replicate]
    split <;> rfl
  refine key ops.size (Array.replicate ops.size false) ac _ ⟨S0, _, rfl, hi.drew, by rw [e]; exact h0⟩ (by simp) ?_
  refine Nat.le_trans (List.length_filter_le _ _) (by simp)
end Go.Proofs.YtnbijiopcgfmfaaGreat.Tev
/- Awake: the drawn region of matmul that makes two boxes. -/
namespace Go.Proofs.YtnbijiopcgfmfaaGreat.Tev
open Go Go.RowKit Go.Proofs Go.Proofs.YtnbijiopcgfmfaaGreat.Q
set_option linter.unusedSectionVars false
set_option maxRecDepth 100000
set_option maxHeartbeats 0
set_option linter.unusedSimpArgs false
set_option linter.unusedVariables false
def opsOf : Code → Array Oper
  | .region _ o _ => o
  | _ => #[]
noncomputable abbrev mB : Code := codeOf Tryz.f65
noncomputable abbrev m0 : Code := sA mB
noncomputable abbrev m1 : Code := sA (sB mB)
noncomputable abbrev m2 : Code := sA (sB (sB mB))
noncomputable abbrev m3 : Code := sA (sB (sB (sB mB)))
noncomputable abbrev mR : Code := sA (sB (sB (sB (sB mB))))
noncomputable abbrev mRest : Code := sB (sB (sB (sB (sB mB))))
noncomputable abbrev mOps : Array Oper := opsOf mR
theorem mB_eq : mB = .seq m0 (.seq m1 (.seq m2 (.seq m3 (.seq mR mRest)))) := by kernel_rfl
theorem mR_eq : mR = .region 9 mOps true := by kernel_rfl
theorem mOps_size : mOps.size = 9 := by kernel_rfl
theorem mOps_list : mOps.toList = [opAt 0 mR, opAt 1 mR, opAt 2 mR, opAt 3 mR, opAt 4 mR, opAt 5 mR, opAt 6 mR, opAt 7 mR, opAt 8 mR] := by kernel_rfl
theorem mNeed : ([(1, 0), (2, 1), (3, 2), (6, 4), (7, 6), (8, 5), (8, 3), (8, 7)].all fun (ij : Nat × Nat) => (opAt ij.1 mR).after.toList.any fun e => Region.binds .any e && e.on == ij.2) = true := by kernel_rfl
theorem mDown : (mOps.toList.zipIdx.all fun (o, i) => o.after.toList.all fun e => !Region.binds .any e || decide (e.on < i)) = true := by kernel_rfl
theorem mGuard : (mOps.toList.all fun o => o.guard.isNone && (match o.dst with | some d => decide (d < Tryz.f65.ntmps) | none => true)) = true := by kernel_rfl
section
variable (c1 : Option Nat) (F : T) (S0 : St)
def mV : Nat → T
  | 0 => .pt 1 1
  | 1 => .c (.s c1 1 [CI 2])
  | 2 => .rp true [CI 2] 0
  | _ => I 2
structure MR0 : Prop where
  g3 : get S0.t 3 = .pt 1 0
  o1 : obj S0.o 1 = some (.box [I 1, .c (.s c1 1 [CI 2]), F])
  n : 2 ≤ S0.n
structure MR (L : Nat → Bool) (p q : Nat) (S : St) : Prop where
  old : ∀ t, t < 9 ∨ (12 ≤ t ∧ t < 63) ∨ 67 ≤ t → get S.t t = get S0.t t
  v : ∀ i, i < 4 → L i = true → get S.t (63 + i) = mV c1 i
  w : L 7 = true → get S.t 10 = I 1
  a1 : L 4 = true → get S.t 9 = .pt p 0 ∧ S0.n ≤ p ∧ p < S.n
  a2 : L 4 = true → obj S.o p = some (.box [if L 6 then I 1 else I 0])
  b1 : L 5 = true → get S.t 11 = .pt q 0 ∧ S0.n ≤ q ∧ q < S.n
  b2 : L 5 = true → obj S.o q = some (.box [if L 8 then I 2 else I 0])
  ne : L 4 = true → L 5 = true → p ≠ q
  n : S.n = S0.n + (if L 4 then 1 else 0) + (if L 5 then 1 else 0)
  oo : ∀ o, (L 4 = true → o ≠ p) → (L 5 = true → o ≠ q) → obj S.o o = obj S0.o o
variable {c1 F S0}
/-- A value is put. -/
theorem MR.put {L : Nat → Bool} {p q : Nat} {S : St} (h : (MR c1 S0) L p q S) (i : Nat) (hi : i < 4) : (MR c1 S0) (fun j => j == i || L j) p q ⟨(63 + i, mV c1 i) :: S.t, S.o, S.n⟩ := by
  have hg : ∀ t, t ≠ 63 + i → get ((63 + i, mV c1 i) :: S.t) t = get S.t t := fun t ht => by simp [get, Ne.symm ht]
  have hs : get ((63 + i, mV c1 i) :: S.t) (63 + i) = mV c1 i := by simp [get]
  have e : ∀ k, 4 ≤ k → ((k == i || L k) : Bool) = L k := fun k hk => by rw [show (k == i) = false from by simpa using (by omega : k ≠ i)]; rfl
  refine ⟨fun t ht => (hg t (by omega)).trans (h.old t ht), fun j hj hL => ?_, fun hL => ?_, fun hL => ?_, fun hL => ?_, fun hL => ?_, fun hL => ?_, fun hL hL' => ?_, ?_, fun o h1 h2 => ?_⟩
  · by_cases hji : j = i
    · subst hji; exact hs
    · refine (hg (63 + j) (by omega)).trans (h.v j hj ?_)
      have : (j == i) = false := by simpa using hji
      simpa [this] using hL
  · rw [e 7 (by omega)] at hL
    exact (hg 10 (by omega)).trans (h.w hL)
  · rw [e 4 (by omega)] at hL
    have := h.a1 hL
    exact ⟨(hg 9 (by omega)).trans this.1, this.2⟩
  · simp only [e 4 (by omega), e 6 (by omega)] at hL ⊢
    exact h.a2 hL
  · rw [e 5 (by omega)] at hL
    have := h.b1 hL
    exact ⟨(hg 11 (by omega)).trans this.1, this.2⟩
  · simp only [e 5 (by omega), e 8 (by omega)] at hL ⊢
    exact h.b2 hL
  · rw [e 4 (by omega)] at hL
    rw [e 5 (by omega)] at hL'
    exact h.ne hL hL'
  · simp only [e 4 (by omega), e 5 (by omega)]
    exact h.n
  · simp only [e 4 (by omega)] at h1
    simp only [e 5 (by omega)] at h2
    exact h.oo o h1 h2
theorem MR.put7 {L : Nat → Bool} {p q : Nat} {S : St} (h : (MR c1 S0) L p q S) : (MR c1 S0) (fun j => j == 7 || L j) p q ⟨(10, I 1) :: S.t, S.o, S.n⟩ := by
  have hg : ∀ t, t ≠ 10 → get ((10, (I 1 : T)) :: S.t) t = get S.t t := fun t ht => by simp [get, Ne.symm ht]
  refine ⟨fun t ht => (hg t (by omega)).trans (h.old t ht), fun j hj hL => ?_, fun hL => by simp [get], fun hL => ?_, fun hL => ?_, fun hL => ?_, fun hL => ?_, fun hL hL' => ?_, ?_, fun o h1 h2 => ?_⟩
  · refine (hg (63 + j) (by omega)).trans (h.v j hj ?_)
    have : (j == 7) = false := by simpa using (by omega : j ≠ 7)
    simpa [this] using hL
  · have := h.a1 (by simpa using hL)
    exact ⟨(hg 9 (by omega)).trans this.1, this.2⟩
  · simpa using h.a2 (by simpa using hL)
  · have := h.b1 (by simpa using hL)
    exact ⟨(hg 11 (by omega)).trans this.1, this.2⟩
  · simpa using h.b2 (by simpa using hL)
  · exact h.ne (by simpa using hL) (by simpa using hL')
  · simpa using h.n
  · exact h.oo o (fun k => h1 (by simpa using k)) fun k => h2 (by simpa using k)
/-- The first box is made. -/
theorem MR.allocA {L : Nat → Bool} {p q : Nat} {S : St} (h : (MR c1 S0) L p q S) (h4 : L 4 = false) (h6 : L 6 = false) : (MR c1 S0) (fun j => j == 4 || L j) S.n q ⟨(9, .pt S.n 0) :: S.t, (S.n, .box [I 0]) :: S.o, S.n + 1⟩ := by
  have hg : ∀ t, t ≠ 9 → get ((9, T.pt S.n 0) :: S.t) t = get S.t t := fun t ht => by simp [get, Ne.symm ht]
  have hn := h.n
  have ho : ∀ o, obj ((S.n, Ob.box [I 0]) :: S.o) o = if o = S.n then some (.box [I 0]) else obj S.o o := fun o => by
    by_cases e : o = S.n
    · subst e; simp [obj]
    · simp [obj, e, Ne.symm e]
  refine ⟨fun t ht => (hg t (by omega)).trans (h.old t ht), fun j hj hL => ?_, fun hL => ?_, fun hL => ⟨by simp [get], ?_, by show S.n < S.n + 1; omega⟩, fun hL => ?_, fun hL => ?_, fun hL => ?_, fun hL hL' => ?_, ?_, fun o h1 h2 => ?_⟩
  · refine (hg (63 + j) (by omega)).trans (h.v j hj ?_)
    have : (j == 4) = false := by simpa using (by omega : j ≠ 4)
    simpa [this] using hL
  · exact (hg 10 (by omega)).trans (h.w (by simpa using hL))
  · rw [hn]; split <;> split <;> omega
  · show obj (_ :: _) _ = _
    rw [ho, if_pos rfl]
    simp [h6]
  · have hL : L 5 = true := by simpa using hL
    have := h.b1 hL
    exact ⟨(hg 11 (by omega)).trans this.1, this.2.1, by show q < S.n + 1; omega⟩
  · have hL : L 5 = true := by simpa using hL
    have := (h.b1 hL).2
    show obj (_ :: _) _ = _
    rw [ho, if_neg (by omega)]
    simpa using h.b2 hL
  · have hL' : L 5 = true := by simpa using hL'
    have := (h.b1 hL').2
    omega
  · show S.n + 1 = _
    rw [hn]
    simp [h4]
    omega
  · show obj (_ :: _) _ = _
    rw [ho, if_neg (h1 (by simp))]
    refine h.oo o (fun k => by rw [h4] at k; simp at k) fun k => h2 (by simpa using k)
theorem MR.allocB {L : Nat → Bool} {p q : Nat} {S : St} (h : (MR c1 S0) L p q S) (h5 : L 5 = false) (h8 : L 8 = false) : (MR c1 S0) (fun j => j == 5 || L j) p S.n ⟨(11, .pt S.n 0) :: S.t, (S.n, .box [I 0]) :: S.o, S.n + 1⟩ := by
  have hg : ∀ t, t ≠ 11 → get ((11, T.pt S.n 0) :: S.t) t = get S.t t := fun t ht => by simp [get, Ne.symm ht]
  have hn := h.n
  have ho : ∀ o, obj ((S.n, Ob.box [I 0]) :: S.o) o = if o = S.n then some (.box [I 0]) else obj S.o o := fun o => by
    by_cases e : o = S.n
    · subst e; simp [obj]
    · simp [obj, e, Ne.symm e]
  refine ⟨fun t ht => (hg t (by omega)).trans (h.old t ht), fun j hj hL => ?_, fun hL => ?_, fun hL => ?_, fun hL => ?_, fun hL => ⟨by simp [get], ?_, by show S.n < S.n + 1; omega⟩, fun hL => ?_, fun hL hL' => ?_, ?_, fun o h1 h2 => ?_⟩
  · refine (hg (63 + j) (by omega)).trans (h.v j hj ?_)
    have : (j == 5) = false := by simpa using (by omega : j ≠ 5)
    simpa [this] using hL
  · exact (hg 10 (by omega)).trans (h.w (by simpa using hL))
  · have hL : L 4 = true := by simpa using hL
    have := h.a1 hL
    exact ⟨(hg 9 (by omega)).trans this.1, this.2.1, by show p < S.n + 1; omega⟩
  · have hL : L 4 = true := by simpa using hL
    have := (h.a1 hL).2
    show obj (_ :: _) _ = _
    rw [ho, if_neg (by omega)]
    simpa using h.a2 hL
  · rw [hn]; split <;> split <;> omega
  · show obj (_ :: _) _ = _
    rw [ho, if_pos rfl]
    simp [h8]
  · have hL : L 4 = true := by simpa using hL
    have := (h.a1 hL).2
    omega
  · show S.n + 1 = _
    rw [hn]
    simp [h5]
  · show obj (_ :: _) _ = _
    rw [ho, if_neg (h2 (by simp))]
    refine h.oo o (fun k => h1 (by simpa using k)) fun k => by rw [h5] at k; simp at k
/-- The stores. -/
theorem MR.putA {L : Nat → Bool} {p q : Nat} {S : St} (h : (MR c1 S0) L p q S) (h4 : L 4 = true) : (MR c1 S0) (fun j => j == 6 || L j) p q ⟨S.t, setO p (.box [I 1]) S.o, S.n⟩ := by
  have hp := h.a2 h4
  have ho : ∀ o, obj (setO p (Ob.box [I 1]) S.o) o = if o = p then some (.box [I 1]) else obj S.o o := fun o => by
    rw [obj_setO]
    by_cases e : o = p
    · subst e; rw [if_pos rfl, if_pos rfl, hp]; rfl
    · rw [if_neg e, if_neg e]
  refine ⟨h.old, fun j hj hL => h.v j hj ?_, fun hL => h.w (by simpa using hL), fun hL => h.a1 h4, fun hL => ?_, fun hL => h.b1 (by simpa using hL), fun hL => ?_, fun hL hL' => h.ne h4 (by simpa using hL'), by simpa using h.n, fun o h1 h2 => ?_⟩
  · have : (j == 6) = false := by simpa using (by omega : j ≠ 6)
    simpa [this] using hL
  · show obj (setO _ _ _) _ = _
    rw [ho, if_pos rfl]
    simp
  · have hL : L 5 = true := by simpa using hL
    show obj (setO _ _ _) _ = _
    rw [ho, if_neg (Ne.symm (h.ne h4 hL))]
    simpa using h.b2 hL
  · show obj (setO _ _ _) _ = _
    rw [ho, if_neg (h1 (by simpa using h4))]
    exact h.oo o (fun _ => h1 (by simpa using h4)) fun k => h2 (by simpa using k)
theorem MR.putB {L : Nat → Bool} {p q : Nat} {S : St} (h : (MR c1 S0) L p q S) (h5 : L 5 = true) : (MR c1 S0) (fun j => j == 8 || L j) p q ⟨S.t, setO q (.box [I 2]) S.o, S.n⟩ := by
  have hp := h.b2 h5
  have ho : ∀ o, obj (setO q (Ob.box [I 2]) S.o) o = if o = q then some (.box [I 2]) else obj S.o o := fun o => by
    rw [obj_setO]
    by_cases e : o = q
    · subst e; rw [if_pos rfl, if_pos rfl, hp]; rfl
    · rw [if_neg e, if_neg e]
  refine ⟨h.old, fun j hj hL => h.v j hj ?_, fun hL => h.w (by simpa using hL), fun hL => h.a1 (by simpa using hL), fun hL => ?_, fun hL => h.b1 h5, fun hL => ?_, fun hL hL' => h.ne (by simpa using hL) h5, by simpa using h.n, fun o h1 h2 => ?_⟩
  · have : (j == 8) = false := by simpa using (by omega : j ≠ 8)
    simpa [this] using hL
  · have hL : L 4 = true := by simpa using hL
    show obj (setO _ _ _) _ = _
    rw [ho, if_neg (h.ne hL h5)]
    simpa using h.a2 hL
  · show obj (setO _ _ _) _ = _
    rw [ho, if_pos rfl]
    simp
  · show obj (setO _ _ _) _ = _
    rw [ho, if_neg (h2 (by simpa using h5))]
    exact h.oo o (fun k => h1 (by simpa using k)) fun _ => h2 (by simpa using h5)
/-! The operations, one by one. -/
variable {cl : FuncId → List T → Option R} {S : St}
theorem mo_fa (h : get S.t 3 = .pt 1 0) : opA E0 cl true S (opAt 0 mR) = some ⟨(63, .pt 1 1) :: S.t, S.o, S.n⟩ := by
  simp (config := { maxSteps := 1000000 }) (disch := omega) only [push_cast, ↓reduceIte, Nat.reduceEqDiff, Nat.reduceAdd, Nat.reduceLT, Nat.reduceLeDiff, Nat.reduceBEq, Nat.reduceMul, Nat.reduceSub, Int.reduceToNat, Int.reduceEq, Int.reduceLT, Int.reduceLE, Int.reduceNeg, Int.reduceAdd, Int.reduceSub, Int.reduceMul, Tryz.f65, kr65, ty3, ty22, ty24, ty34, opA, opAt, mR, mB, sA, sB, h, St.add]
  all_goals rfl
theorem mo_ld (h : get S.t 63 = .pt 1 1) (ho : obj S.o 1 = some (.box [I 1, .c (.s c1 1 [CI 2]), F])) : opA E0 cl true S (opAt 1 mR) = some ⟨(64, .c (.s c1 1 [CI 2])) :: S.t, S.o, S.n⟩ := by
  simp (config := { maxSteps := 1000000 }) (disch := omega) only [push_cast, ↓reduceIte, Nat.reduceEqDiff, Nat.reduceAdd, Nat.reduceLT, Nat.reduceLeDiff, Nat.reduceBEq, Nat.reduceMul, Nat.reduceSub, Int.reduceToNat, Int.reduceEq, Int.reduceLT, Int.reduceLE, Int.reduceNeg, Int.reduceAdd, Int.reduceSub, Int.reduceMul, Tryz.f65, kr65, ty3, ty22, ty24, ty34, opA, opAt, mR, mB, sA, sB, h, ho, St.add]
  all_goals rfl
theorem mo_ix (h : get S.t 64 = .c (.s c1 1 [CI 2])) : opA E0 cl true S (opAt 2 mR) = some ⟨(65, .rp true [CI 2] 0) :: S.t, S.o, S.n⟩ := by
  simp (config := { maxSteps := 1000000 }) (disch := omega) only [push_cast, ↓reduceIte, Nat.reduceEqDiff, Nat.reduceAdd, Nat.reduceLT, Nat.reduceLeDiff, Nat.reduceBEq, Nat.reduceMul, Nat.reduceSub, Int.reduceToNat, Int.reduceEq, Int.reduceLT, Int.reduceLE, Int.reduceNeg, Int.reduceAdd, Int.reduceSub, Int.reduceMul, Tryz.f65, kr65, ty3, ty22, ty24, ty34, opA, opAt, mR, mB, sA, sB, h, St.add]
  all_goals rfl
theorem mo_lr (h : get S.t 65 = .rp true [CI 2] 0) : opA E0 cl true S (opAt 3 mR) = some ⟨(66, I 2) :: S.t, S.o, S.n⟩ := by
  simp (config := { maxSteps := 1000000 }) (disch := omega) only [push_cast, ↓reduceIte, Nat.reduceEqDiff, Nat.reduceAdd, Nat.reduceLT, Nat.reduceLeDiff, Nat.reduceBEq, Nat.reduceMul, Nat.reduceSub, Int.reduceToNat, Int.reduceEq, Int.reduceLT, Int.reduceLE, Int.reduceNeg, Int.reduceAdd, Int.reduceSub, Int.reduceMul, Tryz.f65, kr65, ty3, ty22, ty24, ty34, opA, opAt, mR, mB, sA, sB, h, St.add]
  all_goals rfl
theorem mo_aA : opA E0 cl true S (opAt 4 mR) = some ⟨(9, .pt S.n 0) :: S.t, (S.n, .box [I 0]) :: S.o, S.n + 1⟩ := by
  simp (config := { maxSteps := 1000000 }) (disch := omega) only [push_cast, ↓reduceIte, Nat.reduceEqDiff, Nat.reduceAdd, Nat.reduceLT, Nat.reduceLeDiff, Nat.reduceBEq, Nat.reduceMul, Nat.reduceSub, Int.reduceToNat, Int.reduceEq, Int.reduceLT, Int.reduceLE, Int.reduceNeg, Int.reduceAdd, Int.reduceSub, Int.reduceMul, Tryz.f65, kr65, ty3, ty22, ty24, ty34, opA, opAt, mR, mB, sA, sB, St.add]
  all_goals rfl
theorem mo_aB : opA E0 cl true S (opAt 5 mR) = some ⟨(11, .pt S.n 0) :: S.t, (S.n, .box [I 0]) :: S.o, S.n + 1⟩ := by
  simp (config := { maxSteps := 1000000 }) (disch := omega) only [push_cast, ↓reduceIte, Nat.reduceEqDiff, Nat.reduceAdd, Nat.reduceLT, Nat.reduceLeDiff, Nat.reduceBEq, Nat.reduceMul, Nat.reduceSub, Int.reduceToNat, Int.reduceEq, Int.reduceLT, Int.reduceLE, Int.reduceNeg, Int.reduceAdd, Int.reduceSub, Int.reduceMul, Tryz.f65, kr65, ty3, ty22, ty24, ty34, opA, opAt, mR, mB, sA, sB, St.add]
  all_goals rfl
theorem mo_sA (o : Nat) (x : T) (h : get S.t 9 = .pt o 0) (ho : obj S.o o = some (.box [x])) : opA E0 cl true S (opAt 6 mR) = some ⟨S.t, setO o (.box [I 1]) S.o, S.n⟩ := by
  simp (config := { maxSteps := 1000000 }) (disch := omega) only [push_cast, ↓reduceIte, Nat.reduceEqDiff, Nat.reduceAdd, Nat.reduceLT, Nat.reduceLeDiff, Nat.reduceBEq, Nat.reduceMul, Nat.reduceSub, Int.reduceToNat, Int.reduceEq, Int.reduceLT, Int.reduceLE, Int.reduceNeg, Int.reduceAdd, Int.reduceSub, Int.reduceMul, Tryz.f65, kr65, ty3, ty22, ty24, ty34, opA, opAt, mR, mB, sA, sB, h, ho, St.add, storeT]
  all_goals rfl
theorem mo_mv : opA E0 cl true S (opAt 7 mR) = some ⟨(10, I 1) :: S.t, S.o, S.n⟩ := by
  simp (config := { maxSteps := 1000000 }) (disch := omega) only [push_cast, ↓reduceIte, Nat.reduceEqDiff, Nat.reduceAdd, Nat.reduceLT, Nat.reduceLeDiff, Nat.reduceBEq, Nat.reduceMul, Nat.reduceSub, Int.reduceToNat, Int.reduceEq, Int.reduceLT, Int.reduceLE, Int.reduceNeg, Int.reduceAdd, Int.reduceSub, Int.reduceMul, Tryz.f65, kr65, ty3, ty22, ty24, ty34, opA, opAt, mR, mB, sA, sB, St.add]
  all_goals rfl
theorem mo_sB (o : Nat) (x : T) (h : get S.t 11 = .pt o 0) (h2 : get S.t 66 = I 2) (ho : obj S.o o = some (.box [x])) : opA E0 cl true S (opAt 8 mR) = some ⟨S.t, setO o (.box [I 2]) S.o, S.n⟩ := by
  simp (config := { maxSteps := 1000000 }) (disch := omega) only [push_cast, ↓reduceIte, Nat.reduceEqDiff, Nat.reduceAdd, Nat.reduceLT, Nat.reduceLeDiff, Nat.reduceBEq, Nat.reduceMul, Nat.reduceSub, Int.reduceToNat, Int.reduceEq, Int.reduceLT, Int.reduceLE, Int.reduceNeg, Int.reduceAdd, Int.reduceSub, Int.reduceMul, Tryz.f65, kr65, ty3, ty22, ty24, ty34, opA, opAt, mR, mB, sA, sB, h, h2, ho, St.add, storeT]
  all_goals rfl
theorem mneed {L : Nat → Bool} {i j : Nat} (hm : (i, j) ∈ [(1, 0), (2, 1), (3, 2), (6, 4), (7, 6), (8, 5), (8, 3), (8, 7)]) (h : ∀ e ∈ (opAt i mR).after.toList, Region.binds .any e = true → L e.on = true) : L j = true := by
  have := List.all_eq_true.1 mNeed (i, j) hm
  obtain ⟨e, he, hb⟩ := List.any_eq_true.1 this
  simp only [Bool.and_eq_true, beq_iff_eq] at hb
  have := h e he hb.1
  rwa [hb.2] at this
/-- What one operation makes of the invariant. -/
theorem mr_step (h0 : MR0 c1 F S0) {L : Nat → Bool} {i : Nat} {o : Oper} (hr : ∃ p q, (MR c1 S0) L p q S) (ho : mOps[i]? = some o) (hL : L i = false) (he : ∀ e ∈ o.after.toList, Region.binds .any e = true → L e.on = true) (h6 : L 6 = true → L 4 = true) (h8 : L 8 = true → L 5 = true) :
    ∃ S1, opA E0 cl true S o = some S1 ∧ ∃ p q, (MR c1 S0) (fun j => j == i || L j) p q S1 := by
  obtain ⟨p, q, h⟩ := hr
  have hl : mOps.toList[i]? = some o := by simpa using ho
  rw [mOps_list] at hl
  have hi : i < 9 := by
    have := (List.getElem?_eq_some_iff.1 hl).1
    simpa using this
  have g3 := (h.old 3 (by omega)).trans h0.g3
  have hn2 := h0.n
  have o1 : obj S.o 1 = _ := (h.oo 1 (fun k => by have := (h.a1 k).2.1; omega) fun k => by have := (h.b1 k).2.1; omega).trans h0.o1
  have hc : i = 0 ∨ i = 1 ∨ i = 2 ∨ i = 3 ∨ i = 4 ∨ i = 5 ∨ i = 6 ∨ i = 7 ∨ i = 8 := by omega
  rcases hc with rfl | rfl | rfl | rfl | rfl | rfl | rfl | rfl | rfl
  all_goals obtain rfl := Option.some.inj hl
  · exact ⟨_, mo_fa g3, p, q, h.put 0 (by omega)⟩
  · exact ⟨_, mo_ld (h.v 0 (by omega) (mneed (i := 1) (by simp) he)) o1, p, q, h.put 1 (by omega)⟩
  · exact ⟨_, mo_ix (h.v 1 (by omega) (mneed (i := 2) (by simp) he)), p, q, h.put 2 (by omega)⟩
  · exact ⟨_, mo_lr (h.v 2 (by omega) (mneed (i := 3) (by simp) he)), p, q, h.put 3 (by omega)⟩
  · exact ⟨_, mo_aA, S.n, q, h.allocA hL (by cases k : L 6 with | false => rfl | true => rw [h6 k] at hL; simp at hL)⟩
  · exact ⟨_, mo_aB, p, S.n, h.allocB hL (by cases k : L 8 with | false => rfl | true => rw [h8 k] at hL; simp at hL)⟩
  · have h4 : L 4 = true := mneed (i := 6) (by simp) he
    exact ⟨_, mo_sA p _ (h.a1 h4).1 (h.a2 h4), p, q, h.putA h4⟩
  · exact ⟨_, mo_mv, p, q, h.put7⟩
  · have h5 : L 5 = true := mneed (i := 8) (by simp) he
    exact ⟨_, mo_sB q _ (h.b1 h5).1 (h.v 3 (by omega) (mneed (i := 8) (by simp) he)) (h.b2 h5), p, q, h.putB h5⟩
theorem walk_mR {w0 : World} {F0 : Nat → Prop} {l : List Code} {Qw : Ex → St → Prop} (hcl : CallOK E0.P cl) (h0 : MR0 c1 F S0)
    (hj : ∀ t, (9 ≤ t ∧ t < 12) ∨ (63 ≤ t ∧ t < 67) → get S0.t t = .junk)
    (hA : WalkL E0.P Tryz.f65.ntmps w0 F0 l ⟨(9, .pt S0.n 0) :: (10, I 1) :: (11, .pt (S0.n + 1) 0) :: S0.t, (S0.n + 1, .box [I 2]) :: (S0.n, .box [I 1]) :: S0.o, S0.n + 2⟩ Qw)
    (hB : WalkL E0.P Tryz.f65.ntmps w0 F0 l ⟨(9, .pt (S0.n + 1) 0) :: (10, I 1) :: (11, .pt S0.n 0) :: S0.t, (S0.n + 1, .box [I 1]) :: (S0.n, .box [I 2]) :: S0.o, S0.n + 2⟩ Qw) :
    WalkL E0.P Tryz.f65.ntmps w0 F0 (mR :: l) S0 Qw := by
  rw [mR_eq]
  refine walk_free mixed hcl (fun L S => (∃ p q, (MR c1 S0) L p q S) ∧ (L 6 = true → L 4 = true) ∧ (L 8 = true → L 5 = true)) mDown mGuard ⟨⟨0, 0, fun _ _ => rfl, fun _ _ h => by simp at h, fun h => by simp at h, fun h => by simp at h, fun h => by simp at h, fun h => by simp at h, fun h => by simp at h, fun h => by simp at h, by simp, fun _ _ _ => rfl⟩, fun h => by simp at h, fun h => by simp at h⟩ (fun L S i o hr ho hL he => ?_) (fun L S hr hall => ?_)
  · obtain ⟨S1, h1, h2⟩ := mr_step h0 hr.1 ho hL he hr.2.1 hr.2.2
    refine ⟨S1, h1, h2, fun k => ?_, fun k => ?_⟩
    · by_cases e : i = 6
      · subst e
        have hl : mOps.toList[6]? = some o := by simpa using ho
        rw [mOps_list] at hl
        obtain rfl := Option.some.inj hl
        simp only [mneed (i := 6) (j := 4) (by simp) he, Bool.or_true]
      · have : (6 == i) = false := by simpa using Ne.symm e
        simp only [this, Bool.false_or] at k
        simp only [hr.2.1 k, Bool.or_true]
    · by_cases e : i = 8
      · subst e
        have hl : mOps.toList[8]? = some o := by simpa using ho
        rw [mOps_list] at hl
        obtain rfl := Option.some.inj hl
        simp only [mneed (i := 8) (j := 5) (by simp) he, Bool.or_true]
      · have : (8 == i) = false := by simpa using Ne.symm e
        simp only [this, Bool.false_or] at k
        simp only [hr.2.2 k, Bool.or_true]
  · obtain ⟨⟨p, q, h⟩, _⟩ := hr
    rw [mOps_size] at hall
    have a1 := h.a1 (hall 4 (by omega))
    have a2 := h.a2 (hall 4 (by omega))
    have b1 := h.b1 (hall 5 (by omega))
    have b2 := h.b2 (hall 5 (by omega))
    have hw := h.w (hall 7 (by omega))
    have hne := h.ne (hall 4 (by omega)) (hall 5 (by omega))
    have hn := h.n
    rw [hall 6 (by omega), if_pos rfl] at a2
    rw [hall 8 (by omega), if_pos rfl] at b2
    rw [hall 4 (by omega), hall 5 (by omega)] at hn
    simp only [if_true] at hn
    have old : ∀ t, t ≠ 9 → t ≠ 10 → t ≠ 11 → get S0.t t = get S.t t ∨ get S0.t t = .junk := fun t h1 h2 h3 => by
      by_cases e : (9 ≤ t ∧ t < 12) ∨ (63 ≤ t ∧ t < 67)
      · exact .inr (hj t e)
      · exact .inl (h.old t (by omega)).symm
    have gg : ∀ (x y z : T) t, get ((9, x) :: (10, y) :: (11, z) :: S0.t) t = if t = 9 then x else if t = 10 then y else if t = 11 then z else get S0.t t := fun x y z t => by
      by_cases e : t = 9
      · subst e; simp [get]
      · by_cases e2 : t = 10
        · subst e2; simp [get]
        · by_cases e3 : t = 11
          · subst e3; simp [get]
          · simp [get, e, e2, e3, Ne.symm e, Ne.symm e2, Ne.symm e3]
    have oo : ∀ (x y : Ob) t, obj ((S0.n + 1, x) :: (S0.n, y) :: S0.o) t = if t = S0.n + 1 then some x else if t = S0.n then some y else obj S0.o t := fun x y t => by
      by_cases e : t = S0.n + 1
      · subst e; simp [obj]
      · by_cases e2 : t = S0.n
        · subst e2; simp [obj]
        · simp [obj, e, e2, Ne.symm e, Ne.symm e2]
    have hpq : (p = S0.n ∧ q = S0.n + 1) ∨ (p = S0.n + 1 ∧ q = S0.n) := by omega
    rcases hpq with ⟨rfl, rfl⟩ | ⟨rfl, rfl⟩
    · refine ⟨_, fun t => ?_, ?_, fun o => ?_, hA⟩
      · rw [gg]
        by_cases e : t = 9
        · subst e; rw [if_pos rfl]; exact .inl a1.1.symm
        · by_cases e2 : t = 10
          · subst e2; rw [if_neg e, if_pos rfl]; exact .inl hw.symm
          · by_cases e3 : t = 11
            · subst e3; rw [if_neg e, if_neg e2, if_pos rfl]; exact .inl b1.1.symm
            · rw [if_neg e, if_neg e2, if_neg e3]; exact old t e e2 e3
      · show S0.n + 2 = S.n; omega
      · rw [oo]
        by_cases e : o = S0.n + 1
        · subst e; rw [if_pos rfl]; exact b2.symm
        · by_cases e2 : o = S0.n
          · subst e2; rw [if_neg e, if_pos rfl]; exact a2.symm
          · rw [if_neg e, if_neg e2]; exact (h.oo o (fun _ => e2) fun _ => e).symm
    · refine ⟨_, fun t => ?_, ?_, fun o => ?_, hB⟩
      · rw [gg]
        by_cases e : t = 9
        · subst e; rw [if_pos rfl]; exact .inl a1.1.symm
        · by_cases e2 : t = 10
          · subst e2; rw [if_neg e, if_pos rfl]; exact .inl hw.symm
          · by_cases e3 : t = 11
            · subst e3; rw [if_neg e, if_neg e2, if_pos rfl]; exact .inl b1.1.symm
            · rw [if_neg e, if_neg e2, if_neg e3]; exact old t e e2 e3
      · show S0.n + 2 = S.n; omega
      · rw [oo]
        by_cases e : o = S0.n + 1
        · subst e; rw [if_pos rfl]; exact a2.symm
        · by_cases e2 : o = S0.n
          · subst e2; rw [if_neg e, if_pos rfl]; exact b2.symm
          · rw [if_neg e, if_neg e2]; exact (h.oo o (fun _ => e) fun _ => e2).symm
end
end Go.Proofs.YtnbijiopcgfmfaaGreat.Tev
