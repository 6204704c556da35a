/- Part 10: CFld, CFlm, CFln, CFlo, CFlq, CFlr, CAr1, CNum. -/
import Derived.Test.YtnbijiopcgfmfaaGreatP08
import Derived.Test.YtnbijiopcgfmfaaGreatP09
/- Facts of words: masks, the highest digit. -/
namespace Go.Proofs.YtnbijiopcgfmfaaGreat.Tev
open Go Go.RowKit Go.Proofs Go.Proofs.YtnbijiopcgfmfaaGreat.Q
set_option linter.unusedSectionVars false
set_option maxRecDepth 100000
set_option maxHeartbeats 0
set_option linter.unusedSimpArgs false
set_option linter.unusedVariables false
theorem ofInt_nat {b : Int} (h0 : 0 ≤ b) (h1 : b < 18446744073709551616) : (BitVec.ofInt 64 b).toNat = b.toNat := by
  rw [BitVec.toNat_ofInt]; omega
theorem andK_le {a b : Int} (h0 : 0 ≤ b) (h1 : b < 18446744073709551616) : 0 ≤ andK .u64 a b ∧ andK .u64 a b ≤ b := by
  have e : andK .u64 a b = IntKind.u64.wrap ((BitVec.ofInt 64 a &&& BitVec.ofInt 64 b).toNat : Int) := rfl
  have h2 : (BitVec.ofInt 64 a &&& BitVec.ofInt 64 b).toNat ≤ b.toNat := by
    rw [BitVec.toNat_and, ofInt_nat h0 h1]; exact Nat.and_le_right
  rw [e, u64_wrap (by omega) (by omega)]
  omega
theorem orK_ge {a b : Int} (h0 : 0 ≤ b) (h1 : b < 18446744073709551616) : b ≤ orK .u64 a b ∧ orK .u64 a b < 18446744073709551616 := by
  have e : orK .u64 a b = IntKind.u64.wrap ((BitVec.ofInt 64 a ||| BitVec.ofInt 64 b).toNat : Int) := rfl
  have h2 : b.toNat ≤ (BitVec.ofInt 64 a ||| BitVec.ofInt 64 b).toNat := by
    rw [BitVec.toNat_or, ofInt_nat h0 h1]; exact Nat.right_le_or
  have h3 := (BitVec.ofInt 64 a ||| BitVec.ofInt 64 b).isLt
  rw [e, u64_wrap (by omega) (by omega)]
  omega
theorem shr_eq (n : Int) (k : Int) (q : Int) (hq : (2 : Int) ^ min k.toNat 64 = q) (h : 0 < q) : shrK .u64 n k = n / q := by
  show n.fdiv (2 ^ min k.toNat 64) = _
  rw [hq, Int.fdiv_eq_ediv_of_nonneg _ (by omega)]
theorem shr32 (n : Int) : shrK .u64 n 32 = n / 4294967296 := shr_eq n 32 _ rfl (by decide)
theorem shr16 (n : Int) : shrK .u64 n 16 = n / 65536 := shr_eq n 16 _ rfl (by decide)
theorem shr8 (n : Int) : shrK .u64 n 8 = n / 256 := shr_eq n 8 _ rfl (by decide)
theorem shr1 (n : Int) : shrK .u64 n 1 = n / 2 := shr_eq n 1 _ rfl (by decide)
theorem len8_lit {k : Int} (h0 : 1 ≤ k) (h1 : k < 256) : (len8 k = 1 ∧ k < 2) ∨ (len8 k = 2 ∧ 2 ≤ k ∧ k < 4) ∨ (len8 k = 3 ∧ 4 ≤ k ∧ k < 8) ∨ (len8 k = 4 ∧ 8 ≤ k ∧ k < 16) ∨ (len8 k = 5 ∧ 16 ≤ k ∧ k < 32) ∨ (len8 k = 6 ∧ 32 ≤ k ∧ k < 64) ∨ (len8 k = 7 ∧ 64 ≤ k ∧ k < 128) ∨ (len8 k = 8 ∧ 128 ≤ k) := by
  obtain ⟨_, _, _, h2, h3, h4, h5⟩ := len8_ok (k := k) (by omega) h1
  rcases h5 with ⟨h5, _⟩ | ⟨h5, h6⟩
  · omega
  have : len8 k = 1 ∨ len8 k = 2 ∨ len8 k = 3 ∨ len8 k = 4 ∨ len8 k = 5 ∨ len8 k = 6 ∨ len8 k = 7 ∨ len8 k = 8 := by omega
  rcases this with e | e | e | e | e | e | e | e <;> rw [e] at h2 h5 ⊢ <;> simp at h2 h5 <;> omega
theorem u8_id {n : Int} (h0 : 0 ≤ n) (h1 : n < 256) : IntKind.u8.wrap n = n := by
  have e : IntKind.u8.wrap n = n % 256 := by simp [IntKind.wrap, IntKind.bits, IntKind.signed]
  rw [e]; omega
/-- What the highest digit's place tells. -/
theorem lenQ_lit {n : Int} (h0 : 1 ≤ n) (h1 : n < 18446744073709551616) : ∃ (n3 k L : Int) , (k = 0 ∨ k = 8 ∨ k = 16 ∨ k = 24 ∨ k = 32 ∨ k = 40 ∨ k = 48 ∨ k = 56) ∧ n3 = n / 2 ^ k.toNat ∧ 1 ≤ n3 ∧ n3 < 256 ∧ L = len8 n3 ∧ lenQ n = k + L := by
  unfold lenQ
  simp only [shr32, shr16, shr8]
  by_cases c1 : 4294967296 ≤ n
  · simp only [c1, if_true]
    by_cases c2 : 65536 ≤ n / 4294967296
    · simp only [c2, if_true]
      by_cases c3 : 256 ≤ n / 4294967296 / 65536
      · simp only [c3, if_true]
        refine ⟨n / 4294967296 / 65536 / 256, 56, _, by omega, ?_, by omega, by omega, rfl, ?_⟩
        · show _ = n / 72057594037927936; omega
        · rw [u8_id (by omega) (by omega)]; omega
      · simp only [c3, if_false]
        refine ⟨n / 4294967296 / 65536, 48, _, by omega, ?_, by omega, by omega, rfl, ?_⟩
        · show _ = n / 281474976710656; omega
        · rw [u8_id (by omega) (by omega)]; omega
    · simp only [c2, if_false]
      by_cases c3 : 256 ≤ n / 4294967296
      · simp only [c3, if_true]
        refine ⟨n / 4294967296 / 256, 40, _, by omega, ?_, by omega, by omega, rfl, ?_⟩
        · show _ = n / 1099511627776; omega
        · rw [u8_id (by omega) (by omega)]; omega
      · simp only [c3, if_false]
        refine ⟨n / 4294967296, 32, _, by omega, ?_, by omega, by omega, rfl, ?_⟩
        · show _ = n / 4294967296; omega
        · rw [u8_id (by omega) (by omega)]; omega
  · simp only [c1, if_false]
    by_cases c2 : 65536 ≤ n
    · simp only [c2, if_true]
      by_cases c3 : 256 ≤ n / 65536
      · simp only [c3, if_true]
        refine ⟨n / 65536 / 256, 24, _, by omega, ?_, by omega, by omega, rfl, ?_⟩
        · show _ = n / 16777216; omega
        · rw [u8_id (by omega) (by omega)]; omega
      · simp only [c3, if_false]
        refine ⟨n / 65536, 16, _, by omega, ?_, by omega, by omega, rfl, ?_⟩
        · show _ = n / 65536; omega
        · rw [u8_id (by omega) (by omega)]; omega
    · simp only [c2, if_false]
      by_cases c3 : 256 ≤ n
      · simp only [c3, if_true]
        refine ⟨n / 256, 8, _, by omega, ?_, by omega, by omega, rfl, ?_⟩
        · show _ = n / 256; omega
        · rw [u8_id (by omega) (by omega)]; omega
      · simp only [c3, if_false]
        refine ⟨n, 0, _, by omega, ?_, by omega, by omega, rfl, ?_⟩
        · show _ = n / 1; omega
        · rw [u8_id (by omega) (by omega)]; omega
/-- A word whose highest digit is brought to the front. -/
theorem top_bit {n : Int} (h0 : 1 ≤ n) (h1 : n < 18446744073709551616) : 9223372036854775808 ≤ shlK .u64 n (64 - lenQ n) ∧ shlK .u64 n (64 - lenQ n) < 18446744073709551616 := by
  obtain ⟨n3, k, L, hk, h3, h4, h5, rfl, hl⟩ := lenQ_lit h0 h1
  have hw : ∀ j q : Int, (2 : Int) ^ min j.toNat 64 = q → 9223372036854775808 ≤ n * q → n * q < 18446744073709551616 → 9223372036854775808 ≤ shlK .u64 n j ∧ shlK .u64 n j < 18446744073709551616 := fun j q hq ha hb => by
    show 9223372036854775808 ≤ IntKind.u64.wrap (n * 2 ^ min j.toNat 64) ∧ IntKind.u64.wrap (n * 2 ^ min j.toNat 64) < _
    rw [hq, u64_wrap (by omega) hb]; exact ⟨ha, hb⟩
  rw [hl]
  rcases len8_lit h4 h5 with ⟨e, b⟩ | ⟨e, b⟩ | ⟨e, b⟩ | ⟨e, b⟩ | ⟨e, b⟩ | ⟨e, b⟩ | ⟨e, b⟩ | ⟨e, b⟩ <;> rw [e] <;>
  rcases hk with rfl | rfl | rfl | rfl | rfl | rfl | rfl | rfl <;> refine hw _ _ rfl ?_ ?_ <;> simp only [Int.reduceAdd, Int.reduceSub, Int.reduceToNat, Nat.reduceLeDiff, Nat.min_def, if_true, if_false, Int.reducePow] at h3 ⊢ <;> omega
theorem len_top {n : Int} (h0 : 9223372036854775808 ≤ n) (h1 : n < 18446744073709551616) : lenQ n = 64 := by
  obtain ⟨n3, k, L, hk, h3, h4, h5, rfl, hl⟩ := lenQ_lit (by omega) h1
  have hk' : k = 56 := by
    rcases hk with rfl | rfl | rfl | rfl | rfl | rfl | rfl | rfl <;> simp only [Int.reduceToNat, Int.reducePow] at h3 <;> omega
  subst hk'
  simp only [Int.reduceToNat, Int.reducePow] at h3
  rcases len8_lit h4 h5 with ⟨e, b⟩ | ⟨e, b⟩ | ⟨e, b⟩ | ⟨e, b⟩ | ⟨e, b⟩ | ⟨e, b⟩ | ⟨e, b⟩ | ⟨e, b⟩ <;> omega
end Go.Proofs.YtnbijiopcgfmfaaGreat.Tev
/- Floats read. -/
namespace Go.Proofs.YtnbijiopcgfmfaaGreat.Tev
open Go Go.RowKit Go.Proofs Go.Proofs.YtnbijiopcgfmfaaGreat.Q
set_option linter.unusedSectionVars false
set_option maxRecDepth 100000
set_option maxHeartbeats 0
set_option linter.unusedSimpArgs false
set_option linter.unusedVariables false
abbrev Num (cl sg m e : Int) : T := .agg [I cl, I sg, U64 m, I e]
def okNum (cl m e : Int) : Prop := (¬ cl = 0 → ¬ cl = 2 → ¬ cl = 3 → 1 ≤ m ∧ m < 18446744073709551616) ∧ -1100 ≤ e ∧ e ≤ 2100
/-- Whether bits are those of a float. -/
def bitsOk (p a : Int) : Prop := p = 24 → shrK .u64 (IntKind.u64.wrap a) 32 = 0
instance (p a : Int) : Decidable (bitsOk p a) := by unfold bitsOk; infer_instance
theorem f_read {p w : Int} (hs : okS p w) (a : Int) : ∃ cl sg m e, CALL 54 [Shp p w, I a] = some (.tup [Num cl sg m e, B (decide (bitsOk p a))], []) ∧ okNum cl m e := by
  have ht := f_top hs
  have hl := f_least hs
  have hb := f_bias hs
  rcases hs with ⟨rfl, rfl⟩ | ⟨rfl, rfl⟩
  · rw [show topQ 8 = 255 from rfl] at ht
    rw [show leastQ 8 = -149 from rfl] at hl
    rw [show biasQ 8 = 127 from rfl] at hb
    have k1 : shlK .u64 1 23 = 8388608 := by decide
    have k2 : IntKind.u64.wrap 8388607 = 8388607 := by decide
    obtain ⟨b0, b1⟩ := andK_le (a := shrK .u64 (IntKind.u64.wrap a) 23) (b := 255) (by omega) (by omega)
    obtain ⟨b2, b3⟩ := andK_le (a := IntKind.u64.wrap a) (b := 8388607) (by omega) (by omega)
    obtain ⟨b4, b5⟩ := orK_ge (a := andK .u64 (IntKind.u64.wrap a) 8388607) (b := 8388608) (by omega) (by omega)
    have w1 : IntKind.i64.wrap (andK .u64 (shrK .u64 (IntKind.u64.wrap a) 23) 255) = andK .u64 (shrK .u64 (IntKind.u64.wrap a) 23) 255 := i64_wrap (by omega) (by omega)
    by_cases c0 : shrK .u64 (IntKind.u64.wrap a) 32 = 0
    · rw [decide_eq_true (show bitsOk 24 a from fun _ => c0)]
      by_cases c1 : andK .u64 (shrK .u64 (IntKind.u64.wrap a) 23) 255 = 255
      · by_cases c2 : andK .u64 (IntKind.u64.wrap a) 8388607 = 0
        · refine ⟨2, ?_, 0, 0, ?_, ?_⟩
          rotate_left
          · refine lim_run (fn := Tryz.f54) fn54 rfl body54 (Nat.le_of_ble_eq_true rfl) ok54 ?_
            simp (config := { maxSteps := 1000000 }) (disch := omega) only [push_cast, ↓reduceIte, Nat.reduceEqDiff, Nat.reduceAdd, Nat.reduceLT, Nat.reduceLeDiff, Nat.reduceBEq, Nat.reduceMul, Nat.reduceSub, Int.reduceToNat, Int.reduceEq, Int.reduceLT, Int.reduceLE, Int.reduceNeg, Int.reduceAdd, Int.reduceSub, Int.reduceMul, Tryz.f54, kr54, ty3, ty4, ty83, ty86, ty88, tb4, ht, hl, hb, bin_shl, bin_shr, bin_and, bin_or, cv_iu, cv_ui, k1, k2, w1, c0, eq_true c1, eq_true c2, ne_eq]
            rfl
          · unfold okNum; omega
        · refine ⟨3, ?_, 0, 0, ?_, ?_⟩
          rotate_left
          · refine lim_run (fn := Tryz.f54) fn54 rfl body54 (Nat.le_of_ble_eq_true rfl) ok54 ?_
            simp (config := { maxSteps := 1000000 }) (disch := omega) only [push_cast, ↓reduceIte, Nat.reduceEqDiff, Nat.reduceAdd, Nat.reduceLT, Nat.reduceLeDiff, Nat.reduceBEq, Nat.reduceMul, Nat.reduceSub, Int.reduceToNat, Int.reduceEq, Int.reduceLT, Int.reduceLE, Int.reduceNeg, Int.reduceAdd, Int.reduceSub, Int.reduceMul, Tryz.f54, kr54, ty3, ty4, ty83, ty86, ty88, tb4, ht, hl, hb, bin_shl, bin_shr, bin_and, bin_or, cv_iu, cv_ui, k1, k2, w1, c0, eq_true c1, c2, ne_eq]
            rfl
          · unfold okNum; omega
      · by_cases c3 : andK .u64 (shrK .u64 (IntKind.u64.wrap a) 23) 255 = 0
        · by_cases c2 : andK .u64 (IntKind.u64.wrap a) 8388607 = 0
          · refine ⟨0, ?_, 0, 0, ?_, ?_⟩
            rotate_left
            · refine lim_run (fn := Tryz.f54) fn54 rfl body54 (Nat.le_of_ble_eq_true rfl) ok54 ?_
              simp (config := { maxSteps := 1000000 }) (disch := omega) only [push_cast, ↓reduceIte, Nat.reduceEqDiff, Nat.reduceAdd, Nat.reduceLT, Nat.reduceLeDiff, Nat.reduceBEq, Nat.reduceMul, Nat.reduceSub, Int.reduceToNat, Int.reduceEq, Int.reduceLT, Int.reduceLE, Int.reduceNeg, Int.reduceAdd, Int.reduceSub, Int.reduceMul, Tryz.f54, kr54, ty3, ty4, ty83, ty86, ty88, tb4, ht, hl, hb, bin_shl, bin_shr, bin_and, bin_or, cv_iu, cv_ui, k1, k2, w1, c0, c1, eq_true c3, eq_true c2, ne_eq]
              rfl
            · unfold okNum; omega
          · refine ⟨1, ?_, ?_, ?_, ?_, ?_⟩
            rotate_left 3
            · refine lim_run (fn := Tryz.f54) fn54 rfl body54 (Nat.le_of_ble_eq_true rfl) ok54 ?_
              simp (config := { maxSteps := 1000000 }) (disch := omega) only [push_cast, ↓reduceIte, Nat.reduceEqDiff, Nat.reduceAdd, Nat.reduceLT, Nat.reduceLeDiff, Nat.reduceBEq, Nat.reduceMul, Nat.reduceSub, Int.reduceToNat, Int.reduceEq, Int.reduceLT, Int.reduceLE, Int.reduceNeg, Int.reduceAdd, Int.reduceSub, Int.reduceMul, Tryz.f54, kr54, ty3, ty4, ty83, ty86, ty88, tb4, ht, hl, hb, bin_shl, bin_shr, bin_and, bin_or, cv_iu, cv_ui, k1, k2, w1, c0, c1, eq_true c3, c2, ne_eq]
              rfl
            · unfold okNum; omega
        · refine ⟨1, ?_, ?_, ?_, ?_, ?_⟩
          rotate_left 3
          · refine lim_run (fn := Tryz.f54) fn54 rfl body54 (Nat.le_of_ble_eq_true rfl) ok54 ?_
            simp (config := { maxSteps := 1000000 }) (disch := omega) only [push_cast, ↓reduceIte, Nat.reduceEqDiff, Nat.reduceAdd, Nat.reduceLT, Nat.reduceLeDiff, Nat.reduceBEq, Nat.reduceMul, Nat.reduceSub, Int.reduceToNat, Int.reduceEq, Int.reduceLT, Int.reduceLE, Int.reduceNeg, Int.reduceAdd, Int.reduceSub, Int.reduceMul, Tryz.f54, kr54, ty3, ty4, ty83, ty86, ty88, tb4, ht, hl, hb, bin_shl, bin_shr, bin_and, bin_or, cv_iu, cv_ui, k1, k2, w1, c0, c1, c3, ne_eq]
            rfl
          · unfold okNum; omega
    · rw [decide_eq_false (show ¬ bitsOk 24 a from fun h => c0 (h rfl))]
      refine ⟨0, 0, 0, 0, ?_, by unfold okNum; omega⟩
      refine lim_run (fn := Tryz.f54) fn54 rfl body54 (Nat.le_of_ble_eq_true rfl) ok54 ?_
      simp (config := { maxSteps := 1000000 }) (disch := omega) only [push_cast, ↓reduceIte, Nat.reduceEqDiff, Nat.reduceAdd, Nat.reduceLT, Nat.reduceLeDiff, Nat.reduceBEq, Nat.reduceMul, Nat.reduceSub, Int.reduceToNat, Int.reduceEq, Int.reduceLT, Int.reduceLE, Int.reduceNeg, Int.reduceAdd, Int.reduceSub, Int.reduceMul, Tryz.f54, kr54, ty3, ty4, ty83, ty86, ty88, tb4, ht, hl, hb, bin_shl, bin_shr, bin_and, bin_or, cv_iu, cv_ui, k1, k2, w1, c0, ne_eq]
  · rw [show topQ 11 = 2047 from rfl] at ht
    rw [show leastQ 11 = -1074 from rfl] at hl
    rw [show biasQ 11 = 1023 from rfl] at hb
    have k1 : shlK .u64 1 52 = 4503599627370496 := by decide
    have k2 : IntKind.u64.wrap 4503599627370495 = 4503599627370495 := by decide
    obtain ⟨b0, b1⟩ := andK_le (a := shrK .u64 (IntKind.u64.wrap a) 52) (b := 2047) (by omega) (by omega)
    obtain ⟨b2, b3⟩ := andK_le (a := IntKind.u64.wrap a) (b := 4503599627370495) (by omega) (by omega)
    obtain ⟨b4, b5⟩ := orK_ge (a := andK .u64 (IntKind.u64.wrap a) 4503599627370495) (b := 4503599627370496) (by omega) (by omega)
    have w1 : IntKind.i64.wrap (andK .u64 (shrK .u64 (IntKind.u64.wrap a) 52) 2047) = andK .u64 (shrK .u64 (IntKind.u64.wrap a) 52) 2047 := i64_wrap (by omega) (by omega)
    rw [decide_eq_true (show bitsOk 53 a from fun h => absurd h (by decide))]
    by_cases c1 : andK .u64 (shrK .u64 (IntKind.u64.wrap a) 52) 2047 = 2047
    · by_cases c2 : andK .u64 (IntKind.u64.wrap a) 4503599627370495 = 0
      · refine ⟨2, ?_, 0, 0, ?_, ?_⟩
        rotate_left
        · refine lim_run (fn := Tryz.f54) fn54 rfl body54 (Nat.le_of_ble_eq_true rfl) ok54 ?_
          simp (config := { maxSteps := 1000000 }) (disch := omega) only [push_cast, ↓reduceIte, Nat.reduceEqDiff, Nat.reduceAdd, Nat.reduceLT, Nat.reduceLeDiff, Nat.reduceBEq, Nat.reduceMul, Nat.reduceSub, Int.reduceToNat, Int.reduceEq, Int.reduceLT, Int.reduceLE, Int.reduceNeg, Int.reduceAdd, Int.reduceSub, Int.reduceMul, Tryz.f54, kr54, ty3, ty4, ty83, ty86, ty88, tb4, ht, hl, hb, bin_shl, bin_shr, bin_and, bin_or, cv_iu, cv_ui, k1, k2, w1, eq_true c1, eq_true c2, ne_eq]
          rfl
        · unfold okNum; omega
      · refine ⟨3, ?_, 0, 0, ?_, ?_⟩
        rotate_left
        · refine lim_run (fn := Tryz.f54) fn54 rfl body54 (Nat.le_of_ble_eq_true rfl) ok54 ?_
          simp (config := { maxSteps := 1000000 }) (disch := omega) only [push_cast, ↓reduceIte, Nat.reduceEqDiff, Nat.reduceAdd, Nat.reduceLT, Nat.reduceLeDiff, Nat.reduceBEq, Nat.reduceMul, Nat.reduceSub, Int.reduceToNat, Int.reduceEq, Int.reduceLT, Int.reduceLE, Int.reduceNeg, Int.reduceAdd, Int.reduceSub, Int.reduceMul, Tryz.f54, kr54, ty3, ty4, ty83, ty86, ty88, tb4, ht, hl, hb, bin_shl, bin_shr, bin_and, bin_or, cv_iu, cv_ui, k1, k2, w1, eq_true c1, c2, ne_eq]
          rfl
        · unfold okNum; omega
    · by_cases c3 : andK .u64 (shrK .u64 (IntKind.u64.wrap a) 52) 2047 = 0
      · by_cases c2 : andK .u64 (IntKind.u64.wrap a) 4503599627370495 = 0
        · refine ⟨0, ?_, 0, 0, ?_, ?_⟩
          rotate_left
          · refine lim_run (fn := Tryz.f54) fn54 rfl body54 (Nat.le_of_ble_eq_true rfl) ok54 ?_
            simp (config := { maxSteps := 1000000 }) (disch := omega) only [push_cast, ↓reduceIte, Nat.reduceEqDiff, Nat.reduceAdd, Nat.reduceLT, Nat.reduceLeDiff, Nat.reduceBEq, Nat.reduceMul, Nat.reduceSub, Int.reduceToNat, Int.reduceEq, Int.reduceLT, Int.reduceLE, Int.reduceNeg, Int.reduceAdd, Int.reduceSub, Int.reduceMul, Tryz.f54, kr54, ty3, ty4, ty83, ty86, ty88, tb4, ht, hl, hb, bin_shl, bin_shr, bin_and, bin_or, cv_iu, cv_ui, k1, k2, w1, c1, eq_true c3, eq_true c2, ne_eq]
            rfl
          · unfold okNum; omega
        · refine ⟨1, ?_, ?_, ?_, ?_, ?_⟩
          rotate_left 3
          · refine lim_run (fn := Tryz.f54) fn54 rfl body54 (Nat.le_of_ble_eq_true rfl) ok54 ?_
            simp (config := { maxSteps := 1000000 }) (disch := omega) only [push_cast, ↓reduceIte, Nat.reduceEqDiff, Nat.reduceAdd, Nat.reduceLT, Nat.reduceLeDiff, Nat.reduceBEq, Nat.reduceMul, Nat.reduceSub, Int.reduceToNat, Int.reduceEq, Int.reduceLT, Int.reduceLE, Int.reduceNeg, Int.reduceAdd, Int.reduceSub, Int.reduceMul, Tryz.f54, kr54, ty3, ty4, ty83, ty86, ty88, tb4, ht, hl, hb, bin_shl, bin_shr, bin_and, bin_or, cv_iu, cv_ui, k1, k2, w1, c1, eq_true c3, c2, ne_eq]
            rfl
          · unfold okNum; omega
      · refine ⟨1, ?_, ?_, ?_, ?_, ?_⟩
        rotate_left 3
        · refine lim_run (fn := Tryz.f54) fn54 rfl body54 (Nat.le_of_ble_eq_true rfl) ok54 ?_
          simp (config := { maxSteps := 1000000 }) (disch := omega) only [push_cast, ↓reduceIte, Nat.reduceEqDiff, Nat.reduceAdd, Nat.reduceLT, Nat.reduceLeDiff, Nat.reduceBEq, Nat.reduceMul, Nat.reduceSub, Int.reduceToNat, Int.reduceEq, Int.reduceLT, Int.reduceLE, Int.reduceNeg, Int.reduceAdd, Int.reduceSub, Int.reduceMul, Tryz.f54, kr54, ty3, ty4, ty83, ty86, ty88, tb4, ht, hl, hb, bin_shl, bin_shr, bin_and, bin_or, cv_iu, cv_ui, k1, k2, w1, c1, c3, ne_eq]
          rfl
        · unfold okNum; omega
/-- A kind of floats by its bytes. -/
def okK (k p w : Int) : Prop := (k = 4 ∧ p = 24 ∧ w = 8) ∨ (k = 8 ∧ p = 53 ∧ w = 11)
theorem okK_s {k p w : Int} (h : okK k p w) : okS p w := by unfold okK okS at *; omega
theorem f_of {k p w : Int} (h : okK k p w) : CALL 53 [I k] = some (.tup [Shp p w, B true], []) := by
  rcases h with ⟨rfl, rfl, rfl⟩ | ⟨rfl, rfl, rfl⟩
  · exact f_of4
  · exact f_of8
theorem f_Valid {k p w : Int} (h : okK k p w) (a : Int) : CALL 31 [I k, I a] = some (B (decide (bitsOk p a)), []) := by
  have ho := f_of h
  obtain ⟨cl, sg, m, e, hr, _⟩ := f_read (okK_s h) a
  refine lim_run (fn := Tryz.f31) fn31 rfl body31 (Nat.le_of_ble_eq_true rfl) ok31 ?_
  simp (config := { maxSteps := 1000000 }) (disch := omega) only [push_cast, ↓reduceIte, Nat.reduceEqDiff, Nat.reduceAdd, Nat.reduceLT, Nat.reduceLeDiff, Nat.reduceBEq, Nat.reduceMul, Nat.reduceSub, Int.reduceToNat, Int.reduceEq, Int.reduceLT, Int.reduceLE, Int.reduceNeg, Int.reduceAdd, Int.reduceSub, Int.reduceMul, Tryz.f31, kr31, ty3, ty4, ty83, tb4, ho, hr]
theorem f_two {k p w : Int} (h : okK k p w) (a b : Int) : ∃ c1 s1 m1 e1 c2 s2 m2 e2, CALL 90 [I k, I 0, I a, I b] = some (.tup [Shp p w, Num c1 s1 m1 e1, Num c2 s2 m2 e2, B (decide (bitsOk p a ∧ bitsOk p b))], []) ∧ okNum c1 m1 e1 ∧ okNum c2 m2 e2 := by
  have ho := f_of h
  obtain ⟨cl, sg, m, e, hr, h1⟩ := f_read (okK_s h) a
  obtain ⟨cl2, sg2, m2, e2, hr2, h2⟩ := f_read (okK_s h) b
  refine ⟨cl, sg, m, e, cl2, sg2, m2, e2, ?_, h1, h2⟩
  by_cases c1 : bitsOk p a
  · by_cases c2 : bitsOk p b
    · rw [decide_eq_true (⟨c1, c2⟩ : _ ∧ _)]
      rw [decide_eq_true c1] at hr; rw [decide_eq_true c2] at hr2
      refine lim_run (fn := Tryz.f90) fn90 rfl body90 (Nat.le_of_ble_eq_true rfl) ok90 ?_
      simp (config := { maxSteps := 1000000 }) (disch := omega) only [push_cast, ↓reduceIte, Nat.reduceEqDiff, Nat.reduceAdd, Nat.reduceLT, Nat.reduceLeDiff, Nat.reduceBEq, Nat.reduceMul, Nat.reduceSub, Int.reduceToNat, Int.reduceEq, Int.reduceLT, Int.reduceLE, Int.reduceNeg, Int.reduceAdd, Int.reduceSub, Int.reduceMul, Tryz.f90, kr90, ty3, ty4, ty83, ty86, ty88, tb4, ho, hr, hr2]
      rfl
    · rw [decide_eq_false (show ¬ (bitsOk p a ∧ bitsOk p b) from fun h => c2 h.2)]
      rw [decide_eq_true c1] at hr; rw [decide_eq_false c2] at hr2
      refine lim_run (fn := Tryz.f90) fn90 rfl body90 (Nat.le_of_ble_eq_true rfl) ok90 ?_
      simp (config := { maxSteps := 1000000 }) (disch := omega) only [push_cast, ↓reduceIte, Nat.reduceEqDiff, Nat.reduceAdd, Nat.reduceLT, Nat.reduceLeDiff, Nat.reduceBEq, Nat.reduceMul, Nat.reduceSub, Int.reduceToNat, Int.reduceEq, Int.reduceLT, Int.reduceLE, Int.reduceNeg, Int.reduceAdd, Int.reduceSub, Int.reduceMul, Tryz.f90, kr90, ty3, ty4, ty83, ty86, ty88, tb4, ho, hr, hr2]
      rfl
  · rw [decide_eq_false (show ¬ (bitsOk p a ∧ bitsOk p b) from fun h => c1 h.1)]
    rw [decide_eq_false c1] at hr
    refine lim_run (fn := Tryz.f90) fn90 rfl body90 (Nat.le_of_ble_eq_true rfl) ok90 ?_
    simp (config := { maxSteps := 1000000 }) (disch := omega) only [push_cast, ↓reduceIte, Nat.reduceEqDiff, Nat.reduceAdd, Nat.reduceLT, Nat.reduceLeDiff, Nat.reduceBEq, Nat.reduceMul, Nat.reduceSub, Int.reduceToNat, Int.reduceEq, Int.reduceLT, Int.reduceLE, Int.reduceNeg, Int.reduceAdd, Int.reduceSub, Int.reduceMul, Tryz.f90, kr90, ty3, ty4, ty83, ty86, ty88, tb4, ho, hr, hr2]
    rfl
end Go.Proofs.YtnbijiopcgfmfaaGreat.Tev
/- Sums of floats. -/
namespace Go.Proofs.YtnbijiopcgfmfaaGreat.Tev
open Go Go.RowKit Go.Proofs Go.Proofs.YtnbijiopcgfmfaaGreat.Q
set_option linter.unusedSectionVars false
set_option maxRecDepth 100000
set_option maxHeartbeats 0
set_option linter.unusedSimpArgs false
set_option linter.unusedVariables false
/-- There is an answer, and it is such. -/
def Ex1 (q : R → Prop) (x : Option R) : Prop := ∃ r, x = some r ∧ q r
theorem ex_run {q : R → Prop} {X Y : Option R} (h : ∀ r, X = some r → Y = some r) : Ex1 q X → Ex1 q Y := fun ⟨r, h1, h2⟩ => ⟨r, h r h1, h2⟩
theorem Ex_ite {q : R → Prop} {X Y : Option R} {c : Prop} [Decidable c] : Ex1 q (if c then X else Y) ↔ (c → Ex1 q X) ∧ (¬ c → Ex1 q Y) := by
  by_cases h : c <;> simp [h]
theorem Ex_some {q : R → Prop} {r : R} : Ex1 q (some r) ↔ q r := ⟨fun ⟨_, h, h2⟩ => Option.some.inj h ▸ h2, fun h => ⟨r, rfl, h⟩⟩
def q1 (r : R) : Prop := ∃ o, r = (I o, [])
def q2 (r : R) : Prop := ∃ o f, r = (.tup [I o, I f], [])
def q3 (r : R) : Prop := ∃ o f e, r = (.tup [I o, I f, I e], [])
def qu (r : R) : Prop := ∃ a b, r = (.tup [U64 a, U64 b], [])
theorem q1_mk (o : Int) : q1 (.c (.v (.int .i64 o)), []) ↔ True := iff_true_intro ⟨_, rfl⟩
theorem q2_mk (o f : Int) : q2 (.tup [.c (.v (.int .i64 o)), .c (.v (.int .i64 f))], []) ↔ True := iff_true_intro ⟨_, _, rfl⟩
theorem q3_mk (o f e : Int) : q3 (.tup [.c (.v (.int .i64 o)), .c (.v (.int .i64 f)), .c (.v (.int .i64 e))], []) ↔ True := iff_true_intro ⟨_, _, _, rfl⟩
theorem qu_mk (o f : Int) : qu (.tup [.c (.v (.int .u64 o)), .c (.v (.int .u64 f))], []) ↔ True := iff_true_intro ⟨_, _, rfl⟩
open Classical in
noncomputable def fst2 (x : Option R) : Int := if h : ∃ o f, x = some (.tup [I o, I f], []) then Classical.choose h else 0
open Classical in
noncomputable def snd2 (x : Option R) : Int := if h : ∃ o f, x = some (.tup [I o, I f], []) then Classical.choose (Classical.choose_spec h) else 0
theorem two_eq {x : Option R} (h : ∃ o f, x = some (.tup [I o, I f], [])) : x = some (.tup [I (fst2 x), I (snd2 x)], []) := by
  have h2 := Classical.choose_spec (Classical.choose_spec h)
  unfold fst2 snd2
  rw [dif_pos h, dif_pos h]
  exact h2
theorem two_of {x : Option R} (h : Ex1 q2 x) : ∃ o f, x = some (.tup [I o, I f], []) := by
  obtain ⟨r, h1, o, f, rfl⟩ := h
  exact ⟨o, f, h1⟩
theorem three_of {x : Option R} (h : Ex1 q3 x) : ∃ o f e, x = some (.tup [I o, I f, I e], []) := by
  obtain ⟨r, h1, o, f, e, rfl⟩ := h
  exact ⟨o, f, e, h1⟩
noncomputable def rndO (p w s hi lo e : Int) (more : Bool) : Int := fst2 (CALL 96 [Shp p w, I 0, I s, Exa hi lo e more])
noncomputable def rndF (p w s hi lo e : Int) (more : Bool) : Int := snd2 (CALL 96 [Shp p w, I 0, I s, Exa hi lo e more])
theorem g_round {p w : Int} (hs : okS p w) (s hi lo e : Int) (more : Bool) (h1 : -20000 ≤ e) (h2 : e ≤ 20000) : CALL 96 [Shp p w, I 0, I s, Exa hi lo e more] = some (.tup [I (rndO p w s hi lo e more), I (rndF p w s hi lo e more)], []) :=
  two_eq (f_round hs s hi lo e more ⟨h1, h2⟩)
theorem f_left (m n : Int) (h0 : 0 ≤ n) (h1 : n ≤ 1000) : ∃ a b, CALL 102 [U64 m, I n] = some (.tup [U64 a, U64 b], []) := by
  by_cases c : 64 ≤ n
  · refine ⟨?_, ?_, ?_⟩
    rotate_left 2
    · refine lim_run (fn := Tryz.f102) fn102 rfl body102 (Nat.le_of_ble_eq_true rfl) ok102 ?_
      simp (config := { maxSteps := 1000000 }) (disch := omega) only [push_cast, ↓reduceIte, Nat.reduceEqDiff, Nat.reduceAdd, Nat.reduceLT, Nat.reduceLeDiff, Nat.reduceBEq, Nat.reduceMul, Nat.reduceSub, Int.reduceToNat, Int.reduceEq, Int.reduceLT, Int.reduceLE, Int.reduceNeg, Int.reduceAdd, Int.reduceSub, Int.reduceMul, Tryz.f102, kr102, ty86, bin_shl, bin_shr, c]
      rfl
  · refine ⟨?_, ?_, ?_⟩
    rotate_left 2
    · refine lim_run (fn := Tryz.f102) fn102 rfl body102 (Nat.le_of_ble_eq_true rfl) ok102 ?_
      simp (config := { maxSteps := 1000000 }) (disch := omega) only [push_cast, ↓reduceIte, Nat.reduceEqDiff, Nat.reduceAdd, Nat.reduceLT, Nat.reduceLeDiff, Nat.reduceBEq, Nat.reduceMul, Nat.reduceSub, Int.reduceToNat, Int.reduceEq, Int.reduceLT, Int.reduceLE, Int.reduceNeg, Int.reduceAdd, Int.reduceSub, Int.reduceMul, Tryz.f102, kr102, ty86, bin_shl, bin_shr, c]
      rfl
open Classical in
noncomputable def subD (x y b : Int) : Int := if h : b = 0 ∨ b = 1 then Classical.choose (c_Sub64 x y b h) else 0
open Classical in
noncomputable def subB (x y b : Int) : Int := if h : b = 0 ∨ b = 1 then Classical.choose (Classical.choose_spec (c_Sub64 x y b h)) else 0
theorem g_Sub64 (x y b : Int) (h : b = 0 ∨ b = 1) : CALL 117 [U64 x, U64 y, U64 b] = some (.tup [U64 (subD x y b), U64 (subB x y b)], []) := by
  have := (Classical.choose_spec (Classical.choose_spec (c_Sub64 x y b h))).2
  unfold subD subB
  rw [dif_pos h, dif_pos h]
  exact this
theorem subB_bd (x y b : Int) : subB x y b = 0 ∨ subB x y b = 1 := by
  unfold subB
  split
  · rename_i h
    exact (Classical.choose_spec (Classical.choose_spec (c_Sub64 x y b h))).1
  · exact .inl rfl
theorem e_Add64 (x y : Int) : ∃ a b, CALL 116 [U64 x, U64 y, U64 0] = some (.tup [U64 a, U64 b], []) := ⟨_, _, c_Add64 x y 0 (.inl rfl)⟩
noncomputable def addS (x y : Int) : Int := Classical.choose (e_Add64 x y)
noncomputable def addC (x y : Int) : Int := Classical.choose (Classical.choose_spec (e_Add64 x y))
theorem g_Add64 (x y : Int) : CALL 116 [U64 x, U64 y, U64 0] = some (.tup [U64 (addS x y), U64 (addC x y)], []) := Classical.choose_spec (Classical.choose_spec (e_Add64 x y))
section
variable {p w : Int} (hs : okS p w)
include hs
theorem f_sum (c1 s1 m1 e1 c2 s2 m2 e2 : Int) (h1 : -1100 ≤ e1 ∧ e1 ≤ 2100) (h2 : -1100 ≤ e2 ∧ e2 ≤ 2100) (h : e2 ≤ e1) :
    Ex1 q2 (CALL 109 [Shp p w, I 0, Num c1 s1 m1 e1, Num c2 s2 m2 e2]) := by
  have hr := g_round hs
  obtain ⟨n0, hn⟩ := f_none hs
  have hsub0 := fun x y => g_Sub64 x y 0 (.inl rfl)
  have hsub1 := fun x y => g_Sub64 x y 1 (.inr rfl)
  have ha := g_Add64
  by_cases cf : 70 < e1 - e2
  · obtain ⟨la, lb, hl⟩ := f_left m1 70 (by omega) (by omega)
    have hb := fun x => subB_bd x 1 0
    by_cases cs : s1 = s2
    · refine ex_run (fun r => lim_run (fn := Tryz.f109) fn109 rfl body109 (Nat.le_of_ble_eq_true rfl) ok109) ?_
      simp (config := { maxSteps := 1000000 }) (disch := omega) only [push_cast, ↓reduceIte, Nat.reduceEqDiff, Nat.reduceAdd, Nat.reduceLT, Nat.reduceLeDiff, Nat.reduceBEq, Nat.reduceMul, Nat.reduceSub, Int.reduceToNat, Int.reduceEq, Int.reduceLT, Int.reduceLE, Int.reduceNeg, Int.reduceAdd, Int.reduceSub, Int.reduceMul, Tryz.f109, kr109, ty3, ty4, ty83, ty86, ty88, ty120, tb4, hl, hr, hn, ha, cf, cs, Ex_ite, Ex_some, q2_mk, implies_true]
    · refine ex_run (fun r => lim_run (fn := Tryz.f109) fn109 rfl body109 (Nat.le_of_ble_eq_true rfl) ok109) ?_
      rcases subB_bd lb 1 0 with hb | hb
      · rcases subB_bd la 0 0 with hc | hc
        · simp (config := { maxSteps := 1000000 }) (disch := omega) only [push_cast, ↓reduceIte, Nat.reduceEqDiff, Nat.reduceAdd, Nat.reduceLT, Nat.reduceLeDiff, Nat.reduceBEq, Nat.reduceMul, Nat.reduceSub, Int.reduceToNat, Int.reduceEq, Int.reduceLT, Int.reduceLE, Int.reduceNeg, Int.reduceAdd, Int.reduceSub, Int.reduceMul, Tryz.f109, kr109, ty3, ty4, ty83, ty86, ty88, ty120, tb4, hl, hr, hn, ha, hsub0, hsub1, hb, hc, cf, cs, Ex_ite, Ex_some, q2_mk, implies_true]
        · rcases subB_bd 0 (subD lb 1 0) 0 with hd | hd
          · simp (config := { maxSteps := 1000000 }) (disch := omega) only [push_cast, ↓reduceIte, Nat.reduceEqDiff, Nat.reduceAdd, Nat.reduceLT, Nat.reduceLeDiff, Nat.reduceBEq, Nat.reduceMul, Nat.reduceSub, Int.reduceToNat, Int.reduceEq, Int.reduceLT, Int.reduceLE, Int.reduceNeg, Int.reduceAdd, Int.reduceSub, Int.reduceMul, Tryz.f109, kr109, ty3, ty4, ty83, ty86, ty88, ty120, tb4, hl, hr, hn, ha, hsub0, hsub1, hb, hc, hd, cf, cs, Ex_ite, Ex_some, q2_mk, implies_true]
          · simp (config := { maxSteps := 1000000 }) (disch := omega) only [push_cast, ↓reduceIte, Nat.reduceEqDiff, Nat.reduceAdd, Nat.reduceLT, Nat.reduceLeDiff, Nat.reduceBEq, Nat.reduceMul, Nat.reduceSub, Int.reduceToNat, Int.reduceEq, Int.reduceLT, Int.reduceLE, Int.reduceNeg, Int.reduceAdd, Int.reduceSub, Int.reduceMul, Tryz.f109, kr109, ty3, ty4, ty83, ty86, ty88, ty120, tb4, hl, hr, hn, ha, hsub0, hsub1, hb, hc, hd, cf, cs, Ex_ite, Ex_some, q2_mk, implies_true]
      · rcases subB_bd la 0 1 with hc | hc
        · simp (config := { maxSteps := 1000000 }) (disch := omega) only [push_cast, ↓reduceIte, Nat.reduceEqDiff, Nat.reduceAdd, Nat.reduceLT, Nat.reduceLeDiff, Nat.reduceBEq, Nat.reduceMul, Nat.reduceSub, Int.reduceToNat, Int.reduceEq, Int.reduceLT, Int.reduceLE, Int.reduceNeg, Int.reduceAdd, Int.reduceSub, Int.reduceMul, Tryz.f109, kr109, ty3, ty4, ty83, ty86, ty88, ty120, tb4, hl, hr, hn, ha, hsub0, hsub1, hb, hc, cf, cs, Ex_ite, Ex_some, q2_mk, implies_true]
        · rcases subB_bd 0 (subD lb 1 0) 0 with hd | hd
          · simp (config := { maxSteps := 1000000 }) (disch := omega) only [push_cast, ↓reduceIte, Nat.reduceEqDiff, Nat.reduceAdd, Nat.reduceLT, Nat.reduceLeDiff, Nat.reduceBEq, Nat.reduceMul, Nat.reduceSub, Int.reduceToNat, Int.reduceEq, Int.reduceLT, Int.reduceLE, Int.reduceNeg, Int.reduceAdd, Int.reduceSub, Int.reduceMul, Tryz.f109, kr109, ty3, ty4, ty83, ty86, ty88, ty120, tb4, hl, hr, hn, ha, hsub0, hsub1, hb, hc, hd, cf, cs, Ex_ite, Ex_some, q2_mk, implies_true]
          · simp (config := { maxSteps := 1000000 }) (disch := omega) only [push_cast, ↓reduceIte, Nat.reduceEqDiff, Nat.reduceAdd, Nat.reduceLT, Nat.reduceLeDiff, Nat.reduceBEq, Nat.reduceMul, Nat.reduceSub, Int.reduceToNat, Int.reduceEq, Int.reduceLT, Int.reduceLE, Int.reduceNeg, Int.reduceAdd, Int.reduceSub, Int.reduceMul, Tryz.f109, kr109, ty3, ty4, ty83, ty86, ty88, ty120, tb4, hl, hr, hn, ha, hsub0, hsub1, hb, hc, hd, cf, cs, Ex_ite, Ex_some, q2_mk, implies_true]
  · obtain ⟨la, lb, hl⟩ := f_left m1 (e1 - e2) (by omega) (by omega)
    by_cases cs : s1 = s2
    · refine ex_run (fun r => lim_run (fn := Tryz.f109) fn109 rfl body109 (Nat.le_of_ble_eq_true rfl) ok109) ?_
      simp (config := { maxSteps := 1000000 }) (disch := omega) only [push_cast, ↓reduceIte, Nat.reduceEqDiff, Nat.reduceAdd, Nat.reduceLT, Nat.reduceLeDiff, Nat.reduceBEq, Nat.reduceMul, Nat.reduceSub, Int.reduceToNat, Int.reduceEq, Int.reduceLT, Int.reduceLE, Int.reduceNeg, Int.reduceAdd, Int.reduceSub, Int.reduceMul, Tryz.f109, kr109, ty3, ty4, ty83, ty86, ty88, ty120, tb4, hl, hr, hn, ha, cf, cs, Ex_ite, Ex_some, q2_mk, implies_true]
    · refine ex_run (fun r => lim_run (fn := Tryz.f109) fn109 rfl body109 (Nat.le_of_ble_eq_true rfl) ok109) ?_
      rcases subB_bd lb m2 0 with hb | hb
      · rcases subB_bd la 0 0 with hc | hc
        · simp (config := { maxSteps := 1000000 }) (disch := omega) only [push_cast, ↓reduceIte, Nat.reduceEqDiff, Nat.reduceAdd, Nat.reduceLT, Nat.reduceLeDiff, Nat.reduceBEq, Nat.reduceMul, Nat.reduceSub, Int.reduceToNat, Int.reduceEq, Int.reduceLT, Int.reduceLE, Int.reduceNeg, Int.reduceAdd, Int.reduceSub, Int.reduceMul, Tryz.f109, kr109, ty3, ty4, ty83, ty86, ty88, ty120, tb4, hl, hr, hn, ha, hsub0, hsub1, hb, hc, cf, cs, Ex_ite, Ex_some, q2_mk, implies_true]
        · rcases subB_bd 0 (subD lb m2 0) 0 with hd | hd
          · simp (config := { maxSteps := 1000000 }) (disch := omega) only [push_cast, ↓reduceIte, Nat.reduceEqDiff, Nat.reduceAdd, Nat.reduceLT, Nat.reduceLeDiff, Nat.reduceBEq, Nat.reduceMul, Nat.reduceSub, Int.reduceToNat, Int.reduceEq, Int.reduceLT, Int.reduceLE, Int.reduceNeg, Int.reduceAdd, Int.reduceSub, Int.reduceMul, Tryz.f109, kr109, ty3, ty4, ty83, ty86, ty88, ty120, tb4, hl, hr, hn, ha, hsub0, hsub1, hb, hc, hd, cf, cs, Ex_ite, Ex_some, q2_mk, implies_true]
          · simp (config := { maxSteps := 1000000 }) (disch := omega) only [push_cast, ↓reduceIte, Nat.reduceEqDiff, Nat.reduceAdd, Nat.reduceLT, Nat.reduceLeDiff, Nat.reduceBEq, Nat.reduceMul, Nat.reduceSub, Int.reduceToNat, Int.reduceEq, Int.reduceLT, Int.reduceLE, Int.reduceNeg, Int.reduceAdd, Int.reduceSub, Int.reduceMul, Tryz.f109, kr109, ty3, ty4, ty83, ty86, ty88, ty120, tb4, hl, hr, hn, ha, hsub0, hsub1, hb, hc, hd, cf, cs, Ex_ite, Ex_some, q2_mk, implies_true]
      · rcases subB_bd la 0 1 with hc | hc
        · simp (config := { maxSteps := 1000000 }) (disch := omega) only [push_cast, ↓reduceIte, Nat.reduceEqDiff, Nat.reduceAdd, Nat.reduceLT, Nat.reduceLeDiff, Nat.reduceBEq, Nat.reduceMul, Nat.reduceSub, Int.reduceToNat, Int.reduceEq, Int.reduceLT, Int.reduceLE, Int.reduceNeg, Int.reduceAdd, Int.reduceSub, Int.reduceMul, Tryz.f109, kr109, ty3, ty4, ty83, ty86, ty88, ty120, tb4, hl, hr, hn, ha, hsub0, hsub1, hb, hc, cf, cs, Ex_ite, Ex_some, q2_mk, implies_true]
        · rcases subB_bd 0 (subD lb m2 0) 0 with hd | hd
          · simp (config := { maxSteps := 1000000 }) (disch := omega) only [push_cast, ↓reduceIte, Nat.reduceEqDiff, Nat.reduceAdd, Nat.reduceLT, Nat.reduceLeDiff, Nat.reduceBEq, Nat.reduceMul, Nat.reduceSub, Int.reduceToNat, Int.reduceEq, Int.reduceLT, Int.reduceLE, Int.reduceNeg, Int.reduceAdd, Int.reduceSub, Int.reduceMul, Tryz.f109, kr109, ty3, ty4, ty83, ty86, ty88, ty120, tb4, hl, hr, hn, ha, hsub0, hsub1, hb, hc, hd, cf, cs, Ex_ite, Ex_some, q2_mk, implies_true]
          · simp (config := { maxSteps := 1000000 }) (disch := omega) only [push_cast, ↓reduceIte, Nat.reduceEqDiff, Nat.reduceAdd, Nat.reduceLT, Nat.reduceLeDiff, Nat.reduceBEq, Nat.reduceMul, Nat.reduceSub, Int.reduceToNat, Int.reduceEq, Int.reduceLT, Int.reduceLE, Int.reduceNeg, Int.reduceAdd, Int.reduceSub, Int.reduceMul, Tryz.f109, kr109, ty3, ty4, ty83, ty86, ty88, ty120, tb4, hl, hr, hn, ha, hsub0, hsub1, hb, hc, hd, cf, cs, Ex_ite, Ex_some, q2_mk, implies_true]
end
end Go.Proofs.YtnbijiopcgfmfaaGreat.Tev
/- Floats: sums, products, kinds. -/
namespace Go.Proofs.YtnbijiopcgfmfaaGreat.Tev
open Go Go.RowKit Go.Proofs Go.Proofs.YtnbijiopcgfmfaaGreat.Q
set_option linter.unusedSectionVars false
set_option maxRecDepth 100000
set_option maxHeartbeats 0
set_option linter.unusedSimpArgs false
set_option linter.unusedVariables false
noncomputable def sumO (p w c1 s1 m1 e1 c2 s2 m2 e2 : Int) : Int := fst2 (CALL 109 [Shp p w, I 0, Num c1 s1 m1 e1, Num c2 s2 m2 e2])
noncomputable def sumF (p w c1 s1 m1 e1 c2 s2 m2 e2 : Int) : Int := snd2 (CALL 109 [Shp p w, I 0, Num c1 s1 m1 e1, Num c2 s2 m2 e2])
noncomputable def faddO (p w c1 s1 m1 e1 c2 s2 m2 e2 : Int) : Int := fst2 (CALL 91 [Shp p w, I 0, Num c1 s1 m1 e1, Num c2 s2 m2 e2])
noncomputable def faddF (p w c1 s1 m1 e1 c2 s2 m2 e2 : Int) : Int := snd2 (CALL 91 [Shp p w, I 0, Num c1 s1 m1 e1, Num c2 s2 m2 e2])
section
variable {p w : Int} (hs : okS p w)
include hs
theorem g_sum (c1 s1 m1 e1 c2 s2 m2 e2 : Int) (h1 : -1100 ≤ e1) (h2 : e1 ≤ 2100) (h3 : -1100 ≤ e2) (h4 : e2 ≤ 2100) (h : e2 ≤ e1) :
    CALL 109 [Shp p w, I 0, Num c1 s1 m1 e1, Num c2 s2 m2 e2] = some (.tup [I (sumO p w c1 s1 m1 e1 c2 s2 m2 e2), I (sumF p w c1 s1 m1 e1 c2 s2 m2 e2)], []) :=
  two_eq (two_of (f_sum hs c1 s1 m1 e1 c2 s2 m2 e2 ⟨h1, h2⟩ ⟨h3, h4⟩ h))
theorem f_infN : ∃ g : Int → Int, ∀ s, CALL 93 [Shp p w, I s] = some (I (g s), []) := ⟨fun s => Classical.choose (f_inf hs s), fun s => Classical.choose_spec (f_inf hs s)⟩
theorem f_zeroN : ∃ g : Int → Int, ∀ s, CALL 94 [Shp p w, I s] = some (I (g s), []) := ⟨fun s => Classical.choose (f_zero hs s), fun s => Classical.choose_spec (f_zero hs s)⟩
theorem f_add (c1 s1 m1 e1 c2 s2 m2 e2 : Int) (h1 : -1100 ≤ e1) (h2 : e1 ≤ 2100) (h3 : -1100 ≤ e2) (h4 : e2 ≤ 2100) :
    Ex1 q2 (CALL 91 [Shp p w, I 0, Num c1 s1 m1 e1, Num c2 s2 m2 e2]) := by
  have hr := g_round hs
  have hu := g_sum hs
  obtain ⟨n0, hn⟩ := f_none hs
  obtain ⟨nq, hq⟩ := f_quiet hs
  obtain ⟨gi, hi⟩ := f_infN hs
  obtain ⟨gz, hz⟩ := f_zeroN hs
  by_cases a1 : c1 = 3
  · refine ex_run (fun r => lim_run (fn := Tryz.f91) fn91 rfl body91 (Nat.le_of_ble_eq_true rfl) ok91) ?_
    simp (config := { maxSteps := 1000000 }) (disch := omega) only [push_cast, ↓reduceIte, Nat.reduceEqDiff, Nat.reduceAdd, Nat.reduceLT, Nat.reduceLeDiff, Nat.reduceBEq, Nat.reduceMul, Nat.reduceSub, Int.reduceToNat, Int.reduceEq, Int.reduceLT, Int.reduceLE, Int.reduceNeg, Int.reduceAdd, Int.reduceSub, Int.reduceMul, Tryz.f91, kr91, ty3, ty4, ty83, ty86, ty88, ty120, tb4, hr, hu, hn, hq, hi, hz, a1, Ex_ite, Ex_some, q2_mk, implies_true, ne_eq]
  by_cases a2 : c2 = 3
  · refine ex_run (fun r => lim_run (fn := Tryz.f91) fn91 rfl body91 (Nat.le_of_ble_eq_true rfl) ok91) ?_
    simp (config := { maxSteps := 1000000 }) (disch := omega) only [push_cast, ↓reduceIte, Nat.reduceEqDiff, Nat.reduceAdd, Nat.reduceLT, Nat.reduceLeDiff, Nat.reduceBEq, Nat.reduceMul, Nat.reduceSub, Int.reduceToNat, Int.reduceEq, Int.reduceLT, Int.reduceLE, Int.reduceNeg, Int.reduceAdd, Int.reduceSub, Int.reduceMul, Tryz.f91, kr91, ty3, ty4, ty83, ty86, ty88, ty120, tb4, hr, hu, hn, hq, hi, hz, a1, a2, Ex_ite, Ex_some, q2_mk, implies_true, ne_eq]
  by_cases a3 : c1 = 2
  · by_cases a4 : c2 = 2
    · by_cases a5 : s1 = s2
      · refine ex_run (fun r => lim_run (fn := Tryz.f91) fn91 rfl body91 (Nat.le_of_ble_eq_true rfl) ok91) ?_
        simp (config := { maxSteps := 1000000 }) (disch := omega) only [push_cast, ↓reduceIte, Nat.reduceEqDiff, Nat.reduceAdd, Nat.reduceLT, Nat.reduceLeDiff, Nat.reduceBEq, Nat.reduceMul, Nat.reduceSub, Int.reduceToNat, Int.reduceEq, Int.reduceLT, Int.reduceLE, Int.reduceNeg, Int.reduceAdd, Int.reduceSub, Int.reduceMul, Tryz.f91, kr91, ty3, ty4, ty83, ty86, ty88, ty120, tb4, hr, hu, hn, hq, hi, hz, a1, a2, a3, a4, a5, Ex_ite, Ex_some, q2_mk, implies_true, ne_eq]
      · refine ex_run (fun r => lim_run (fn := Tryz.f91) fn91 rfl body91 (Nat.le_of_ble_eq_true rfl) ok91) ?_
        simp (config := { maxSteps := 1000000 }) (disch := omega) only [push_cast, ↓reduceIte, Nat.reduceEqDiff, Nat.reduceAdd, Nat.reduceLT, Nat.reduceLeDiff, Nat.reduceBEq, Nat.reduceMul, Nat.reduceSub, Int.reduceToNat, Int.reduceEq, Int.reduceLT, Int.reduceLE, Int.reduceNeg, Int.reduceAdd, Int.reduceSub, Int.reduceMul, Tryz.f91, kr91, ty3, ty4, ty83, ty86, ty88, ty120, tb4, hr, hu, hn, hq, hi, hz, a1, a2, a3, a4, a5, Ex_ite, Ex_some, q2_mk, implies_true, ne_eq]
    · refine ex_run (fun r => lim_run (fn := Tryz.f91) fn91 rfl body91 (Nat.le_of_ble_eq_true rfl) ok91) ?_
      simp (config := { maxSteps := 1000000 }) (disch := omega) only [push_cast, ↓reduceIte, Nat.reduceEqDiff, Nat.reduceAdd, Nat.reduceLT, Nat.reduceLeDiff, Nat.reduceBEq, Nat.reduceMul, Nat.reduceSub, Int.reduceToNat, Int.reduceEq, Int.reduceLT, Int.reduceLE, Int.reduceNeg, Int.reduceAdd, Int.reduceSub, Int.reduceMul, Tryz.f91, kr91, ty3, ty4, ty83, ty86, ty88, ty120, tb4, hr, hu, hn, hq, hi, hz, a1, a2, a3, a4, Ex_ite, Ex_some, q2_mk, implies_true, ne_eq]
  by_cases a4 : c2 = 2
  · refine ex_run (fun r => lim_run (fn := Tryz.f91) fn91 rfl body91 (Nat.le_of_ble_eq_true rfl) ok91) ?_
    simp (config := { maxSteps := 1000000 }) (disch := omega) only [push_cast, ↓reduceIte, Nat.reduceEqDiff, Nat.reduceAdd, Nat.reduceLT, Nat.reduceLeDiff, Nat.reduceBEq, Nat.reduceMul, Nat.reduceSub, Int.reduceToNat, Int.reduceEq, Int.reduceLT, Int.reduceLE, Int.reduceNeg, Int.reduceAdd, Int.reduceSub, Int.reduceMul, Tryz.f91, kr91, ty3, ty4, ty83, ty86, ty88, ty120, tb4, hr, hu, hn, hq, hi, hz, a1, a2, a3, a4, Ex_ite, Ex_some, q2_mk, implies_true, ne_eq]
  by_cases a5 : c1 = 0
  · by_cases a6 : c2 = 0
    · by_cases a7 : s1 = s2
      · refine ex_run (fun r => lim_run (fn := Tryz.f91) fn91 rfl body91 (Nat.le_of_ble_eq_true rfl) ok91) ?_
        simp (config := { maxSteps := 1000000 }) (disch := omega) only [push_cast, ↓reduceIte, Nat.reduceEqDiff, Nat.reduceAdd, Nat.reduceLT, Nat.reduceLeDiff, Nat.reduceBEq, Nat.reduceMul, Nat.reduceSub, Int.reduceToNat, Int.reduceEq, Int.reduceLT, Int.reduceLE, Int.reduceNeg, Int.reduceAdd, Int.reduceSub, Int.reduceMul, Tryz.f91, kr91, ty3, ty4, ty83, ty86, ty88, ty120, tb4, hr, hu, hn, hq, hi, hz, a1, a2, a3, a4, a5, a6, a7, Ex_ite, Ex_some, q2_mk, implies_true, ne_eq]
      · refine ex_run (fun r => lim_run (fn := Tryz.f91) fn91 rfl body91 (Nat.le_of_ble_eq_true rfl) ok91) ?_
        simp (config := { maxSteps := 1000000 }) (disch := omega) only [push_cast, ↓reduceIte, Nat.reduceEqDiff, Nat.reduceAdd, Nat.reduceLT, Nat.reduceLeDiff, Nat.reduceBEq, Nat.reduceMul, Nat.reduceSub, Int.reduceToNat, Int.reduceEq, Int.reduceLT, Int.reduceLE, Int.reduceNeg, Int.reduceAdd, Int.reduceSub, Int.reduceMul, Tryz.f91, kr91, ty3, ty4, ty83, ty86, ty88, ty120, tb4, hr, hu, hn, hq, hi, hz, a1, a2, a3, a4, a5, a6, a7, Ex_ite, Ex_some, q2_mk, implies_true, ne_eq]
    · refine ex_run (fun r => lim_run (fn := Tryz.f91) fn91 rfl body91 (Nat.le_of_ble_eq_true rfl) ok91) ?_
      simp (config := { maxSteps := 1000000 }) (disch := omega) only [push_cast, ↓reduceIte, Nat.reduceEqDiff, Nat.reduceAdd, Nat.reduceLT, Nat.reduceLeDiff, Nat.reduceBEq, Nat.reduceMul, Nat.reduceSub, Int.reduceToNat, Int.reduceEq, Int.reduceLT, Int.reduceLE, Int.reduceNeg, Int.reduceAdd, Int.reduceSub, Int.reduceMul, Tryz.f91, kr91, ty3, ty4, ty83, ty86, ty88, ty120, tb4, hr, hu, hn, hq, hi, hz, a1, a2, a3, a4, a5, a6, Ex_ite, Ex_some, q2_mk, implies_true, ne_eq]
  by_cases a6 : c2 = 0
  · refine ex_run (fun r => lim_run (fn := Tryz.f91) fn91 rfl body91 (Nat.le_of_ble_eq_true rfl) ok91) ?_
    simp (config := { maxSteps := 1000000 }) (disch := omega) only [push_cast, ↓reduceIte, Nat.reduceEqDiff, Nat.reduceAdd, Nat.reduceLT, Nat.reduceLeDiff, Nat.reduceBEq, Nat.reduceMul, Nat.reduceSub, Int.reduceToNat, Int.reduceEq, Int.reduceLT, Int.reduceLE, Int.reduceNeg, Int.reduceAdd, Int.reduceSub, Int.reduceMul, Tryz.f91, kr91, ty3, ty4, ty83, ty86, ty88, ty120, tb4, hr, hu, hn, hq, hi, hz, a1, a2, a3, a4, a5, a6, Ex_ite, Ex_some, q2_mk, implies_true, ne_eq]
  by_cases a7 : e1 < e2
  · refine ex_run (fun r => lim_run (fn := Tryz.f91) fn91 rfl body91 (Nat.le_of_ble_eq_true rfl) ok91) ?_
    simp (config := { maxSteps := 1000000 }) (disch := omega) only [push_cast, ↓reduceIte, Nat.reduceEqDiff, Nat.reduceAdd, Nat.reduceLT, Nat.reduceLeDiff, Nat.reduceBEq, Nat.reduceMul, Nat.reduceSub, Int.reduceToNat, Int.reduceEq, Int.reduceLT, Int.reduceLE, Int.reduceNeg, Int.reduceAdd, Int.reduceSub, Int.reduceMul, Tryz.f91, kr91, ty3, ty4, ty83, ty86, ty88, ty120, tb4, hr, hu, hn, hq, hi, hz, a1, a2, a3, a4, a5, a6, a7, Ex_ite, Ex_some, q2_mk, implies_true, ne_eq]
  · refine ex_run (fun r => lim_run (fn := Tryz.f91) fn91 rfl body91 (Nat.le_of_ble_eq_true rfl) ok91) ?_
    simp (config := { maxSteps := 1000000 }) (disch := omega) only [push_cast, ↓reduceIte, Nat.reduceEqDiff, Nat.reduceAdd, Nat.reduceLT, Nat.reduceLeDiff, Nat.reduceBEq, Nat.reduceMul, Nat.reduceSub, Int.reduceToNat, Int.reduceEq, Int.reduceLT, Int.reduceLE, Int.reduceNeg, Int.reduceAdd, Int.reduceSub, Int.reduceMul, Tryz.f91, kr91, ty3, ty4, ty83, ty86, ty88, ty120, tb4, hr, hu, hn, hq, hi, hz, a1, a2, a3, a4, a5, a6, a7, Ex_ite, Ex_some, q2_mk, implies_true, ne_eq]
theorem g_add (c1 s1 m1 e1 c2 s2 m2 e2 : Int) (h1 : -1100 ≤ e1) (h2 : e1 ≤ 2100) (h3 : -1100 ≤ e2) (h4 : e2 ≤ 2100) :
    CALL 91 [Shp p w, I 0, Num c1 s1 m1 e1, Num c2 s2 m2 e2] = some (.tup [I (faddO p w c1 s1 m1 e1 c2 s2 m2 e2), I (faddF p w c1 s1 m1 e1 c2 s2 m2 e2)], []) :=
  two_eq (two_of (f_add hs c1 s1 m1 e1 c2 s2 m2 e2 h1 h2 h3 h4))
end
section
variable {k p w : Int} (hk : okK k p w)
include hk
theorem f_Add (a b : Int) : Ex1 q3 (CALL 72 [I k, I 0, I a, I b]) := by
  obtain ⟨c1, s1, m1, e1, c2, s2, m2, e2, ht, ⟨_, b1, b2⟩, ⟨_, b3, b4⟩⟩ := f_two hk a b
  have ha := g_add (okK_s hk)
  by_cases c : bitsOk p a ∧ bitsOk p b
  · rw [decide_eq_true c] at ht
    refine ex_run (fun r => lim_run (fn := Tryz.f72) fn72 rfl body72 (Nat.le_of_ble_eq_true rfl) ok72) ?_
    simp (config := { maxSteps := 1000000 }) (disch := omega) only [push_cast, ↓reduceIte, Nat.reduceEqDiff, Nat.reduceAdd, Nat.reduceLT, Nat.reduceLeDiff, Nat.reduceBEq, Nat.reduceMul, Nat.reduceSub, Int.reduceToNat, Int.reduceEq, Int.reduceLT, Int.reduceLE, Int.reduceNeg, Int.reduceAdd, Int.reduceSub, Int.reduceMul, Tryz.f72, kr72, ty3, ty34, ty83, ty86, ty88, ht, ha, Ex_ite, Ex_some, q3_mk]
  · rw [decide_eq_false c] at ht
    refine ex_run (fun r => lim_run (fn := Tryz.f72) fn72 rfl body72 (Nat.le_of_ble_eq_true rfl) ok72) ?_
    simp (config := { maxSteps := 1000000 }) (disch := omega) only [push_cast, ↓reduceIte, Nat.reduceEqDiff, Nat.reduceAdd, Nat.reduceLT, Nat.reduceLeDiff, Nat.reduceBEq, Nat.reduceMul, Nat.reduceSub, Int.reduceToNat, Int.reduceEq, Int.reduceLT, Int.reduceLE, Int.reduceNeg, Int.reduceAdd, Int.reduceSub, Int.reduceMul, Tryz.f72, kr72, ty3, ty34, ty83, ty86, ty88, ht, ha, Ex_ite, Ex_some, q3_mk]
theorem f_Sub (a b : Int) : Ex1 q3 (CALL 73 [I k, I 0, I a, I b]) := by
  obtain ⟨c1, s1, m1, e1, c2, s2, m2, e2, ht, ⟨_, b1, b2⟩, ⟨_, b3, b4⟩⟩ := f_two hk a b
  have ha := g_add (okK_s hk)
  by_cases c : bitsOk p a ∧ bitsOk p b
  · rw [decide_eq_true c] at ht
    refine ex_run (fun r => lim_run (fn := Tryz.f73) fn73 rfl body73 (Nat.le_of_ble_eq_true rfl) ok73) ?_
    simp (config := { maxSteps := 1000000 }) (disch := omega) only [push_cast, ↓reduceIte, Nat.reduceEqDiff, Nat.reduceAdd, Nat.reduceLT, Nat.reduceLeDiff, Nat.reduceBEq, Nat.reduceMul, Nat.reduceSub, Int.reduceToNat, Int.reduceEq, Int.reduceLT, Int.reduceLE, Int.reduceNeg, Int.reduceAdd, Int.reduceSub, Int.reduceMul, Tryz.f73, kr73, ty3, ty34, ty83, ty86, ty88, ht, ha, Ex_ite, Ex_some, q3_mk]
  · rw [decide_eq_false c] at ht
    refine ex_run (fun r => lim_run (fn := Tryz.f73) fn73 rfl body73 (Nat.le_of_ble_eq_true rfl) ok73) ?_
    simp (config := { maxSteps := 1000000 }) (disch := omega) only [push_cast, ↓reduceIte, Nat.reduceEqDiff, Nat.reduceAdd, Nat.reduceLT, Nat.reduceLeDiff, Nat.reduceBEq, Nat.reduceMul, Nat.reduceSub, Int.reduceToNat, Int.reduceEq, Int.reduceLT, Int.reduceLE, Int.reduceNeg, Int.reduceAdd, Int.reduceSub, Int.reduceMul, Tryz.f73, kr73, ty3, ty34, ty83, ty86, ty88, ht, ha, Ex_ite, Ex_some, q3_mk]
end
end Go.Proofs.YtnbijiopcgfmfaaGreat.Tev
/- Words divided. -/
namespace Go.Proofs.YtnbijiopcgfmfaaGreat.Tev
open Go Go.RowKit Go.Proofs Go.Proofs.YtnbijiopcgfmfaaGreat.Q
set_option linter.unusedSectionVars false
set_option maxRecDepth 100000
set_option maxHeartbeats 0
set_option linter.unusedSimpArgs false
set_option linter.unusedVariables false
theorem f_Mul64 (x y : Int) : Ex1 qu (CALL 95 [U64 x, U64 y]) := by
  refine ex_run (fun r => lim_run (fn := Tryz.f95) fn95 rfl body95 (Nat.le_of_ble_eq_true rfl) ok95) ?_
  simp (config := { maxSteps := 1000000 }) (disch := omega) only [push_cast, ↓reduceIte, Nat.reduceEqDiff, Nat.reduceAdd, Nat.reduceLT, Nat.reduceLeDiff, Nat.reduceBEq, Nat.reduceMul, Nat.reduceSub, Int.reduceToNat, Int.reduceEq, Int.reduceLT, Int.reduceLE, Int.reduceNeg, Int.reduceAdd, Int.reduceSub, Int.reduceMul, Tryz.f95, kr95, ty86, bin_shl, bin_shr, bin_and, bin_or, Ex_ite, Ex_some, qu_mk]
theorem s_div1 (y s yn1 yn0 un32 un1 un0 : Int) (h1 : 2147483648 ≤ yn1) (h2 : yn1 < 4294967296) (q rh : Int) (h3 : 0 ≤ rh) (h4 : rh < 17179869184)
    (hn : rh + yn1 < 4294967296 → ∃ q', lp E0 pr0 98 17 ⟨[(2, U64 y), (8, U64 s), (9, U64 yn1), (10, U64 yn0), (11, U64 un32), (13, U64 un1), (14, U64 un0), (15, U64 (IntKind.u64.wrap (q - 1))), (16, U64 (rh + yn1))], [], 0⟩ = some (.exit 0, ⟨[(2, U64 y), (8, U64 s), (9, U64 yn1), (10, U64 yn0), (11, U64 un32), (13, U64 un1), (14, U64 un0), (15, U64 q')], [], 0⟩)) :
    ∃ q', lp E0 pr0 98 17 ⟨[(2, U64 y), (8, U64 s), (9, U64 yn1), (10, U64 yn0), (11, U64 un32), (13, U64 un1), (14, U64 un0), (15, U64 q), (16, U64 rh)], [], 0⟩ = some (.exit 0, ⟨[(2, U64 y), (8, U64 s), (9, U64 yn1), (10, U64 yn0), (11, U64 un32), (13, U64 un1), (14, U64 un0), (15, U64 q')], [], 0⟩) := by
  have w1 : IntKind.u64.wrap (rh + yn1) = rh + yn1 := u64_wrap (by omega) (by omega)
  by_cases c2 : 4294967296 ≤ rh + yn1
  · by_cases c1 : 4294967296 ≤ q
    · skip
      refine ⟨?_, ?_⟩
      rotate_left
      · rw [lp_eq lp98_17]
        simp (config := { maxSteps := 1000000 }) (disch := omega) only [push_cast, ↓reduceIte, Nat.reduceEqDiff, Nat.reduceAdd, Nat.reduceLT, Nat.reduceLeDiff, Nat.reduceBEq, Nat.reduceMul, Nat.reduceSub, Int.reduceToNat, Int.reduceEq, Int.reduceLT, Int.reduceLE, Int.reduceNeg, Int.reduceAdd, Int.reduceSub, Int.reduceMul, Tryz.f98, kr98, kp98_24, kp98_17, ow98_24, ow98_17, ty86, bin_shl, bin_shr, bin_and, bin_or, w1, c1, c2]
        rfl
    · by_cases c3 : IntKind.u64.wrap (IntKind.u64.wrap (4294967296 * rh) + un1) < IntKind.u64.wrap (q * yn0)
      · skip
        refine ⟨?_, ?_⟩
        rotate_left
        · rw [lp_eq lp98_17]
          simp (config := { maxSteps := 1000000 }) (disch := omega) only [push_cast, ↓reduceIte, Nat.reduceEqDiff, Nat.reduceAdd, Nat.reduceLT, Nat.reduceLeDiff, Nat.reduceBEq, Nat.reduceMul, Nat.reduceSub, Int.reduceToNat, Int.reduceEq, Int.reduceLT, Int.reduceLE, Int.reduceNeg, Int.reduceAdd, Int.reduceSub, Int.reduceMul, Tryz.f98, kr98, kp98_24, kp98_17, ow98_24, ow98_17, ty86, bin_shl, bin_shr, bin_and, bin_or, w1, c1, c2, c3]
          rfl
      · skip
        refine ⟨?_, ?_⟩
        rotate_left
        · rw [lp_eq lp98_17]
          simp (config := { maxSteps := 1000000 }) (disch := omega) only [push_cast, ↓reduceIte, Nat.reduceEqDiff, Nat.reduceAdd, Nat.reduceLT, Nat.reduceLeDiff, Nat.reduceBEq, Nat.reduceMul, Nat.reduceSub, Int.reduceToNat, Int.reduceEq, Int.reduceLT, Int.reduceLE, Int.reduceNeg, Int.reduceAdd, Int.reduceSub, Int.reduceMul, Tryz.f98, kr98, kp98_24, kp98_17, ow98_24, ow98_17, ty86, bin_shl, bin_shr, bin_and, bin_or, w1, c1, c2, c3]
          rfl
  · by_cases c1 : 4294967296 ≤ q
    · skip
      obtain ⟨q', hq⟩ := hn (by omega)
      refine ⟨q', ?_⟩
      rw [lp_eq lp98_17]
      simp (config := { maxSteps := 1000000 }) (disch := omega) only [push_cast, ↓reduceIte, Nat.reduceEqDiff, Nat.reduceAdd, Nat.reduceLT, Nat.reduceLeDiff, Nat.reduceBEq, Nat.reduceMul, Nat.reduceSub, Int.reduceToNat, Int.reduceEq, Int.reduceLT, Int.reduceLE, Int.reduceNeg, Int.reduceAdd, Int.reduceSub, Int.reduceMul, Tryz.f98, kr98, kp98_24, kp98_17, ow98_24, ow98_17, ty86, bin_shl, bin_shr, bin_and, bin_or, w1, hq, c1, c2]
    · by_cases c3 : IntKind.u64.wrap (IntKind.u64.wrap (4294967296 * rh) + un1) < IntKind.u64.wrap (q * yn0)
      · skip
        obtain ⟨q', hq⟩ := hn (by omega)
        refine ⟨q', ?_⟩
        rw [lp_eq lp98_17]
        simp (config := { maxSteps := 1000000 }) (disch := omega) only [push_cast, ↓reduceIte, Nat.reduceEqDiff, Nat.reduceAdd, Nat.reduceLT, Nat.reduceLeDiff, Nat.reduceBEq, Nat.reduceMul, Nat.reduceSub, Int.reduceToNat, Int.reduceEq, Int.reduceLT, Int.reduceLE, Int.reduceNeg, Int.reduceAdd, Int.reduceSub, Int.reduceMul, Tryz.f98, kr98, kp98_24, kp98_17, ow98_24, ow98_17, ty86, bin_shl, bin_shr, bin_and, bin_or, w1, hq, c1, c2, c3]
      · skip
        refine ⟨?_, ?_⟩
        rotate_left
        · rw [lp_eq lp98_17]
          simp (config := { maxSteps := 1000000 }) (disch := omega) only [push_cast, ↓reduceIte, Nat.reduceEqDiff, Nat.reduceAdd, Nat.reduceLT, Nat.reduceLeDiff, Nat.reduceBEq, Nat.reduceMul, Nat.reduceSub, Int.reduceToNat, Int.reduceEq, Int.reduceLT, Int.reduceLE, Int.reduceNeg, Int.reduceAdd, Int.reduceSub, Int.reduceMul, Tryz.f98, kr98, kp98_24, kp98_17, ow98_24, ow98_17, ty86, bin_shl, bin_shr, bin_and, bin_or, w1, c1, c2, c3]
          rfl
theorem l_div1 (y s yn1 yn0 un32 un1 un0 : Int) (h1 : 2147483648 ≤ yn1) (h2 : yn1 < 4294967296) (q rh : Int) (h3 : 0 ≤ rh) (h4 : rh < 4294967296) :
    ∃ q', lp E0 pr0 98 17 ⟨[(2, U64 y), (8, U64 s), (9, U64 yn1), (10, U64 yn0), (11, U64 un32), (13, U64 un1), (14, U64 un0), (15, U64 q), (16, U64 rh)], [], 0⟩ = some (.exit 0, ⟨[(2, U64 y), (8, U64 s), (9, U64 yn1), (10, U64 yn0), (11, U64 un32), (13, U64 un1), (14, U64 un0), (15, U64 q')], [], 0⟩) :=
  s_div1 y s yn1 yn0 un32 un1 un0 h1 h2 q rh h3 (by omega) fun h5 => s_div1 y s yn1 yn0 un32 un1 un0 h1 h2 _ _ (by omega) (by omega) fun h6 => s_div1 y s yn1 yn0 un32 un1 un0 h1 h2 _ _ (by omega) (by omega) fun h7 => by omega
theorem s_div2 (y s yn1 yn0 un0 q1 un21 : Int) (h1 : 2147483648 ≤ yn1) (h2 : yn1 < 4294967296) (q rh : Int) (h3 : 0 ≤ rh) (h4 : rh < 17179869184)
    (hn : rh + yn1 < 4294967296 → ∃ q', lp E0 pr0 98 24 ⟨[(2, U64 y), (8, U64 s), (9, U64 yn1), (10, U64 yn0), (14, U64 un0), (15, U64 q1), (16, U64 (rh + yn1)), (17, U64 un21), (18, U64 (IntKind.u64.wrap (q - 1)))], [], 0⟩ = some (.exit 2, ⟨[(2, U64 y), (8, U64 s), (14, U64 un0), (15, U64 q1), (17, U64 un21), (18, U64 q')], [], 0⟩)) :
    ∃ q', lp E0 pr0 98 24 ⟨[(2, U64 y), (8, U64 s), (9, U64 yn1), (10, U64 yn0), (14, U64 un0), (15, U64 q1), (16, U64 rh), (17, U64 un21), (18, U64 q)], [], 0⟩ = some (.exit 2, ⟨[(2, U64 y), (8, U64 s), (14, U64 un0), (15, U64 q1), (17, U64 un21), (18, U64 q')], [], 0⟩) := by
  have w1 : IntKind.u64.wrap (rh + yn1) = rh + yn1 := u64_wrap (by omega) (by omega)
  by_cases c2 : 4294967296 ≤ rh + yn1
  · by_cases c1 : 4294967296 ≤ q
    · skip
      refine ⟨?_, ?_⟩
      rotate_left
      · rw [lp_eq lp98_24]
        simp (config := { maxSteps := 1000000 }) (disch := omega) only [push_cast, ↓reduceIte, Nat.reduceEqDiff, Nat.reduceAdd, Nat.reduceLT, Nat.reduceLeDiff, Nat.reduceBEq, Nat.reduceMul, Nat.reduceSub, Int.reduceToNat, Int.reduceEq, Int.reduceLT, Int.reduceLE, Int.reduceNeg, Int.reduceAdd, Int.reduceSub, Int.reduceMul, Tryz.f98, kr98, kp98_24, kp98_17, ow98_24, ow98_17, ty86, bin_shl, bin_shr, bin_and, bin_or, w1, c1, c2]
        rfl
    · by_cases c3 : IntKind.u64.wrap (IntKind.u64.wrap (4294967296 * rh) + un0) < IntKind.u64.wrap (q * yn0)
      · skip
        refine ⟨?_, ?_⟩
        rotate_left
        · rw [lp_eq lp98_24]
          simp (config := { maxSteps := 1000000 }) (disch := omega) only [push_cast, ↓reduceIte, Nat.reduceEqDiff, Nat.reduceAdd, Nat.reduceLT, Nat.reduceLeDiff, Nat.reduceBEq, Nat.reduceMul, Nat.reduceSub, Int.reduceToNat, Int.reduceEq, Int.reduceLT, Int.reduceLE, Int.reduceNeg, Int.reduceAdd, Int.reduceSub, Int.reduceMul, Tryz.f98, kr98, kp98_24, kp98_17, ow98_24, ow98_17, ty86, bin_shl, bin_shr, bin_and, bin_or, w1, c1, c2, c3]
          rfl
      · skip
        refine ⟨?_, ?_⟩
        rotate_left
        · rw [lp_eq lp98_24]
          simp (config := { maxSteps := 1000000 }) (disch := omega) only [push_cast, ↓reduceIte, Nat.reduceEqDiff, Nat.reduceAdd, Nat.reduceLT, Nat.reduceLeDiff, Nat.reduceBEq, Nat.reduceMul, Nat.reduceSub, Int.reduceToNat, Int.reduceEq, Int.reduceLT, Int.reduceLE, Int.reduceNeg, Int.reduceAdd, Int.reduceSub, Int.reduceMul, Tryz.f98, kr98, kp98_24, kp98_17, ow98_24, ow98_17, ty86, bin_shl, bin_shr, bin_and, bin_or, w1, c1, c2, c3]
          rfl
  · by_cases c1 : 4294967296 ≤ q
    · skip
      obtain ⟨q', hq⟩ := hn (by omega)
      refine ⟨q', ?_⟩
      rw [lp_eq lp98_24]
      simp (config := { maxSteps := 1000000 }) (disch := omega) only [push_cast, ↓reduceIte, Nat.reduceEqDiff, Nat.reduceAdd, Nat.reduceLT, Nat.reduceLeDiff, Nat.reduceBEq, Nat.reduceMul, Nat.reduceSub, Int.reduceToNat, Int.reduceEq, Int.reduceLT, Int.reduceLE, Int.reduceNeg, Int.reduceAdd, Int.reduceSub, Int.reduceMul, Tryz.f98, kr98, kp98_24, kp98_17, ow98_24, ow98_17, ty86, bin_shl, bin_shr, bin_and, bin_or, w1, hq, c1, c2]
    · by_cases c3 : IntKind.u64.wrap (IntKind.u64.wrap (4294967296 * rh) + un0) < IntKind.u64.wrap (q * yn0)
      · skip
        obtain ⟨q', hq⟩ := hn (by omega)
        refine ⟨q', ?_⟩
        rw [lp_eq lp98_24]
        simp (config := { maxSteps := 1000000 }) (disch := omega) only [push_cast, ↓reduceIte, Nat.reduceEqDiff, Nat.reduceAdd, Nat.reduceLT, Nat.reduceLeDiff, Nat.reduceBEq, Nat.reduceMul, Nat.reduceSub, Int.reduceToNat, Int.reduceEq, Int.reduceLT, Int.reduceLE, Int.reduceNeg, Int.reduceAdd, Int.reduceSub, Int.reduceMul, Tryz.f98, kr98, kp98_24, kp98_17, ow98_24, ow98_17, ty86, bin_shl, bin_shr, bin_and, bin_or, w1, hq, c1, c2, c3]
      · skip
        refine ⟨?_, ?_⟩
        rotate_left
        · rw [lp_eq lp98_24]
          simp (config := { maxSteps := 1000000 }) (disch := omega) only [push_cast, ↓reduceIte, Nat.reduceEqDiff, Nat.reduceAdd, Nat.reduceLT, Nat.reduceLeDiff, Nat.reduceBEq, Nat.reduceMul, Nat.reduceSub, Int.reduceToNat, Int.reduceEq, Int.reduceLT, Int.reduceLE, Int.reduceNeg, Int.reduceAdd, Int.reduceSub, Int.reduceMul, Tryz.f98, kr98, kp98_24, kp98_17, ow98_24, ow98_17, ty86, bin_shl, bin_shr, bin_and, bin_or, w1, c1, c2, c3]
          rfl
theorem l_div2 (y s yn1 yn0 un0 q1 un21 : Int) (h1 : 2147483648 ≤ yn1) (h2 : yn1 < 4294967296) (q rh : Int) (h3 : 0 ≤ rh) (h4 : rh < 4294967296) :
    ∃ q', lp E0 pr0 98 24 ⟨[(2, U64 y), (8, U64 s), (9, U64 yn1), (10, U64 yn0), (14, U64 un0), (15, U64 q1), (16, U64 rh), (17, U64 un21), (18, U64 q)], [], 0⟩ = some (.exit 2, ⟨[(2, U64 y), (8, U64 s), (14, U64 un0), (15, U64 q1), (17, U64 un21), (18, U64 q')], [], 0⟩) :=
  s_div2 y s yn1 yn0 un0 q1 un21 h1 h2 q rh h3 (by omega) fun h5 => s_div2 y s yn1 yn0 un0 q1 un21 h1 h2 _ _ (by omega) (by omega) fun h6 => s_div2 y s yn1 yn0 un0 q1 un21 h1 h2 _ _ (by omega) (by omega) fun h7 => by omega
theorem dr_bd {u v : Int} (h0 : 0 ≤ u) (h1 : u < 18446744073709551616) (h2 : 2147483648 ≤ v) (h3 : v < 4294967296) :
    0 ≤ IntKind.u64.wrap (u - IntKind.u64.wrap (IntKind.u64.wrap (u.tdiv v) * v)) ∧ IntKind.u64.wrap (u - IntKind.u64.wrap (IntKind.u64.wrap (u.tdiv v) * v)) < 4294967296 := by
  rw [Int.tdiv_eq_ediv_of_nonneg h0]
  have a1 := Int.emod_def u v
  have a2 := Int.emod_nonneg u (show v ≠ 0 by omega)
  have a3 := Int.emod_lt_of_pos u (show 0 < v by omega)
  have a4 : 0 ≤ u / v := Int.ediv_nonneg h0 (by omega)
  have a5 : u / v ≤ u := Int.ediv_le_self v h0
  have a6 : u / v * v = v * (u / v) := Int.mul_comm _ _
  have a7 : 0 ≤ v * (u / v) := Int.mul_nonneg (by omega) a4
  have a8 : u / v * v = u - u % v := by omega
  rw [u64_wrap a4 (by omega), a8, u64_wrap (x := u - u % v) (by omega) (by omega), u64_wrap (by omega) (by omega)]
  omega
theorem f_Div64 (hi lo y : Int) (h0 : 0 ≤ hi) (h1 : hi < y) (h2 : 9223372036854775808 ≤ y) (h3 : y < 18446744073709551616) (h4 : 0 ≤ lo) (h5 : lo < 18446744073709551616) : Ex1 qu (CALL 98 [U64 hi, U64 lo, U64 y]) := by
  have n1 : ¬ y = 0 := by omega
  have n2 : ¬ y ≤ hi := by omega
  have n3 : ¬ y ≤ 0 := by omega
  by_cases c0 : hi = 0
  · refine ex_run (fun r => lim_run (fn := Tryz.f98) fn98 rfl body98 (Nat.le_of_ble_eq_true rfl) ok98) ?_
    simp (config := { maxSteps := 1000000 }) (disch := omega) only [push_cast, ↓reduceIte, Nat.reduceEqDiff, Nat.reduceAdd, Nat.reduceLT, Nat.reduceLeDiff, Nat.reduceBEq, Nat.reduceMul, Nat.reduceSub, Int.reduceToNat, Int.reduceEq, Int.reduceLT, Int.reduceLE, Int.reduceNeg, Int.reduceAdd, Int.reduceSub, Int.reduceMul, Tryz.f98, kr98, kp98_24, kp98_17, ow98_24, ow98_17, ty86, bin_shl, bin_shr, bin_and, bin_or, bin_quo, bin_rem, c0, n1, n3, Ex_ite, Ex_some, qu_mk, implies_true]
  · have hl : CALL 113 [U64 y] = some (I 0, []) := by
      have := k_LZ y
      rw [len_top h2 h3] at this
      exact this
    have e0 : shlK .u64 y 0 = y := by
      show IntKind.u64.wrap (y * 1) = y
      rw [Int.mul_one]; exact u64_wrap (by omega) (by omega)
    have e1 : IntKind.u64.wrap 0 = 0 := by decide
    have e2 : IntKind.u64.wrap 64 = 64 := by decide
    have e3 := shr32 y
    have e4 : ¬ shrK .u64 y 32 = 0 := by omega
    have e5 : shrK .u64 lo 64 = 0 := by
      rw [shr_eq lo 64 18446744073709551616 rfl (by omega)]; omega
    obtain ⟨u0, u1⟩ := orK_ge (a := shlK .u64 hi 0) (b := shrK .u64 lo 64) (by omega) (by omega)
    have y1 : 2147483648 ≤ shrK .u64 y 32 ∧ shrK .u64 y 32 < 4294967296 := by omega
    obtain ⟨d1, d2⟩ := dr_bd (u := orK .u64 (shlK .u64 hi 0) (shrK .u64 lo 64)) (by omega) u1 y1.1 y1.2
    obtain ⟨q1, hq1⟩ := l_div1 y 0 (shrK .u64 y 32) (andK .u64 y 4294967295) (orK .u64 (shlK .u64 hi 0) (shrK .u64 lo 64)) (shrK .u64 (shlK .u64 lo 0) 32) (andK .u64 (shlK .u64 lo 0) 4294967295) y1.1 y1.2
      (IntKind.u64.wrap ((orK .u64 (shlK .u64 hi 0) (shrK .u64 lo 64)).tdiv (shrK .u64 y 32))) _ d1 d2
    obtain ⟨z0, z1⟩ := u64_bd (IntKind.u64.wrap (IntKind.u64.wrap (orK .u64 (shlK .u64 hi 0) (shrK .u64 lo 64) * 4294967296) + shrK .u64 (shlK .u64 lo 0) 32) - IntKind.u64.wrap (q1 * y))
    generalize hz : IntKind.u64.wrap (IntKind.u64.wrap (IntKind.u64.wrap (orK .u64 (shlK .u64 hi 0) (shrK .u64 lo 64) * 4294967296) + shrK .u64 (shlK .u64 lo 0) 32) - IntKind.u64.wrap (q1 * y)) = un21 at z0 z1
    obtain ⟨d3, d4⟩ := dr_bd z0 z1 y1.1 y1.2
    obtain ⟨q0, hq0⟩ := l_div2 y 0 (shrK .u64 y 32) (andK .u64 y 4294967295) (andK .u64 (shlK .u64 lo 0) 4294967295) q1 un21 y1.1 y1.2 (IntKind.u64.wrap (un21.tdiv (shrK .u64 y 32))) _ d3 d4
    refine ex_run (fun r => lim_run (fn := Tryz.f98) fn98 rfl body98 (Nat.le_of_ble_eq_true rfl) ok98) ?_
    simp (config := { maxSteps := 1000000 }) (disch := omega) only [push_cast, ↓reduceIte, Nat.reduceEqDiff, Nat.reduceAdd, Nat.reduceLT, Nat.reduceLeDiff, Nat.reduceBEq, Nat.reduceMul, Nat.reduceSub, Int.reduceToNat, Int.reduceEq, Int.reduceLT, Int.reduceLE, Int.reduceNeg, Int.reduceAdd, Int.reduceSub, Int.reduceMul, Tryz.f98, kr98, kp98_24, kp98_17, ow98_24, ow98_17, ty86, bin_shl, bin_shr, bin_and, bin_or, bin_quo, bin_rem, cv_in, hl, e0, e1, e2, e4, c0, n1, n2, hq1, hq0, hz, Ex_ite, Ex_some, qu_mk, implies_true]
end Go.Proofs.YtnbijiopcgfmfaaGreat.Tev
/- Floats: products, quotients, comparisons, kinds. -/
namespace Go.Proofs.YtnbijiopcgfmfaaGreat.Tev
open Go Go.RowKit Go.Proofs Go.Proofs.YtnbijiopcgfmfaaGreat.Q
set_option linter.unusedSectionVars false
set_option maxRecDepth 100000
set_option maxHeartbeats 0
set_option linter.unusedSimpArgs false
set_option linter.unusedVariables false
theorem u_of {x : Option R} (h : Ex1 qu x) : ∃ o f, x = some (.tup [U64 o, U64 f], []) := by
  obtain ⟨r, h1, o, f, rfl⟩ := h
  exact ⟨o, f, h1⟩
theorem f_high (c s m e : Int) (h1 : -1100 ≤ e) (h2 : e ≤ 2100) : CALL 97 [Num c s m e] = some (Num c s (shlK .u64 m (64 - lenQ m)) (e - (64 - lenQ m)), []) := by
  have h := lenQ_bd m
  refine lim_run (fn := Tryz.f97) fn97 rfl body97 (Nat.le_of_ble_eq_true rfl) ok97 ?_
  simp (config := { maxSteps := 1000000 }) (disch := omega) only [push_cast, ↓reduceIte, Nat.reduceEqDiff, Nat.reduceAdd, Nat.reduceLT, Nat.reduceLeDiff, Nat.reduceBEq, Nat.reduceMul, Nat.reduceSub, Int.reduceToNat, Int.reduceEq, Int.reduceLT, Int.reduceLE, Int.reduceNeg, Int.reduceAdd, Int.reduceSub, Int.reduceMul, Tryz.f97, kr97, ty3, ty86, ty88, k_LZ, bin_shl]
section
variable {k p w : Int} (hk : okK k p w)
include hk
theorem f_Mul (a b : Int) : Ex1 q3 (CALL 74 [I k, I 0, I a, I b]) := by
  have hs := okK_s hk
  obtain ⟨c1, s1, m1, e1, c2, s2, m2, e2, ht, ⟨_, b1, b2⟩, ⟨_, b3, b4⟩⟩ := f_two hk a b
  have hr := g_round hs
  obtain ⟨nq, hq⟩ := f_quiet hs
  obtain ⟨gi, hi⟩ := f_infN hs
  obtain ⟨gz, hz⟩ := f_zeroN hs
  obtain ⟨mh, ml, hm⟩ := u_of (f_Mul64 m1 m2)
  by_cases c : bitsOk p a ∧ bitsOk p b
  rotate_left
  · rw [decide_eq_false c] at ht
    refine ex_run (fun r => lim_run (fn := Tryz.f74) fn74 rfl body74 (Nat.le_of_ble_eq_true rfl) ok74) ?_
    simp (config := { maxSteps := 1000000 }) (disch := omega) only [push_cast, ↓reduceIte, Nat.reduceEqDiff, Nat.reduceAdd, Nat.reduceLT, Nat.reduceLeDiff, Nat.reduceBEq, Nat.reduceMul, Nat.reduceSub, Int.reduceToNat, Int.reduceEq, Int.reduceLT, Int.reduceLE, Int.reduceNeg, Int.reduceAdd, Int.reduceSub, Int.reduceMul, Tryz.f74, kr74, ty3, ty4, ty34, ty83, ty86, ty88, ty120, tb4, ht, Ex_ite, Ex_some, q3_mk]
  rw [decide_eq_true c] at ht
  by_cases a1 : c1 = 3
  · refine ex_run (fun r => lim_run (fn := Tryz.f74) fn74 rfl body74 (Nat.le_of_ble_eq_true rfl) ok74) ?_
    simp (config := { maxSteps := 1000000 }) (disch := omega) only [push_cast, ↓reduceIte, Nat.reduceEqDiff, Nat.reduceAdd, Nat.reduceLT, Nat.reduceLeDiff, Nat.reduceBEq, Nat.reduceMul, Nat.reduceSub, Int.reduceToNat, Int.reduceEq, Int.reduceLT, Int.reduceLE, Int.reduceNeg, Int.reduceAdd, Int.reduceSub, Int.reduceMul, Tryz.f74, kr74, ty3, ty4, ty34, ty83, ty86, ty88, ty120, tb4, ht, hr, hm, hq, hi, hz, bin_xor, a1, Ex_ite, Ex_some, q3_mk, implies_true, ne_eq]
  by_cases a2 : c2 = 3
  · refine ex_run (fun r => lim_run (fn := Tryz.f74) fn74 rfl body74 (Nat.le_of_ble_eq_true rfl) ok74) ?_
    simp (config := { maxSteps := 1000000 }) (disch := omega) only [push_cast, ↓reduceIte, Nat.reduceEqDiff, Nat.reduceAdd, Nat.reduceLT, Nat.reduceLeDiff, Nat.reduceBEq, Nat.reduceMul, Nat.reduceSub, Int.reduceToNat, Int.reduceEq, Int.reduceLT, Int.reduceLE, Int.reduceNeg, Int.reduceAdd, Int.reduceSub, Int.reduceMul, Tryz.f74, kr74, ty3, ty4, ty34, ty83, ty86, ty88, ty120, tb4, ht, hr, hm, hq, hi, hz, bin_xor, a1, a2, Ex_ite, Ex_some, q3_mk, implies_true, ne_eq]
  by_cases a3 : c1 = 2
  · by_cases a4 : c2 = 0
    · refine ex_run (fun r => lim_run (fn := Tryz.f74) fn74 rfl body74 (Nat.le_of_ble_eq_true rfl) ok74) ?_
      simp (config := { maxSteps := 1000000 }) (disch := omega) only [push_cast, ↓reduceIte, Nat.reduceEqDiff, Nat.reduceAdd, Nat.reduceLT, Nat.reduceLeDiff, Nat.reduceBEq, Nat.reduceMul, Nat.reduceSub, Int.reduceToNat, Int.reduceEq, Int.reduceLT, Int.reduceLE, Int.reduceNeg, Int.reduceAdd, Int.reduceSub, Int.reduceMul, Tryz.f74, kr74, ty3, ty4, ty34, ty83, ty86, ty88, ty120, tb4, ht, hr, hm, hq, hi, hz, bin_xor, a1, a2, a3, a4, Ex_ite, Ex_some, q3_mk, implies_true, ne_eq]
    · refine ex_run (fun r => lim_run (fn := Tryz.f74) fn74 rfl body74 (Nat.le_of_ble_eq_true rfl) ok74) ?_
      simp (config := { maxSteps := 1000000 }) (disch := omega) only [push_cast, ↓reduceIte, Nat.reduceEqDiff, Nat.reduceAdd, Nat.reduceLT, Nat.reduceLeDiff, Nat.reduceBEq, Nat.reduceMul, Nat.reduceSub, Int.reduceToNat, Int.reduceEq, Int.reduceLT, Int.reduceLE, Int.reduceNeg, Int.reduceAdd, Int.reduceSub, Int.reduceMul, Tryz.f74, kr74, ty3, ty4, ty34, ty83, ty86, ty88, ty120, tb4, ht, hr, hm, hq, hi, hz, bin_xor, a1, a2, a3, a4, Ex_ite, Ex_some, q3_mk, implies_true, ne_eq]
  by_cases a4 : c2 = 2
  · by_cases a5 : c1 = 0
    · refine ex_run (fun r => lim_run (fn := Tryz.f74) fn74 rfl body74 (Nat.le_of_ble_eq_true rfl) ok74) ?_
      simp (config := { maxSteps := 1000000 }) (disch := omega) only [push_cast, ↓reduceIte, Nat.reduceEqDiff, Nat.reduceAdd, Nat.reduceLT, Nat.reduceLeDiff, Nat.reduceBEq, Nat.reduceMul, Nat.reduceSub, Int.reduceToNat, Int.reduceEq, Int.reduceLT, Int.reduceLE, Int.reduceNeg, Int.reduceAdd, Int.reduceSub, Int.reduceMul, Tryz.f74, kr74, ty3, ty4, ty34, ty83, ty86, ty88, ty120, tb4, ht, hr, hm, hq, hi, hz, bin_xor, a1, a2, a3, a4, a5, Ex_ite, Ex_some, q3_mk, implies_true, ne_eq]
    · refine ex_run (fun r => lim_run (fn := Tryz.f74) fn74 rfl body74 (Nat.le_of_ble_eq_true rfl) ok74) ?_
      simp (config := { maxSteps := 1000000 }) (disch := omega) only [push_cast, ↓reduceIte, Nat.reduceEqDiff, Nat.reduceAdd, Nat.reduceLT, Nat.reduceLeDiff, Nat.reduceBEq, Nat.reduceMul, Nat.reduceSub, Int.reduceToNat, Int.reduceEq, Int.reduceLT, Int.reduceLE, Int.reduceNeg, Int.reduceAdd, Int.reduceSub, Int.reduceMul, Tryz.f74, kr74, ty3, ty4, ty34, ty83, ty86, ty88, ty120, tb4, ht, hr, hm, hq, hi, hz, bin_xor, a1, a2, a3, a4, a5, Ex_ite, Ex_some, q3_mk, implies_true, ne_eq]
  by_cases a5 : c1 = 0
  · refine ex_run (fun r => lim_run (fn := Tryz.f74) fn74 rfl body74 (Nat.le_of_ble_eq_true rfl) ok74) ?_
    simp (config := { maxSteps := 1000000 }) (disch := omega) only [push_cast, ↓reduceIte, Nat.reduceEqDiff, Nat.reduceAdd, Nat.reduceLT, Nat.reduceLeDiff, Nat.reduceBEq, Nat.reduceMul, Nat.reduceSub, Int.reduceToNat, Int.reduceEq, Int.reduceLT, Int.reduceLE, Int.reduceNeg, Int.reduceAdd, Int.reduceSub, Int.reduceMul, Tryz.f74, kr74, ty3, ty4, ty34, ty83, ty86, ty88, ty120, tb4, ht, hr, hm, hq, hi, hz, bin_xor, a1, a2, a3, a4, a5, Ex_ite, Ex_some, q3_mk, implies_true, ne_eq]
  by_cases a6 : c2 = 0
  · refine ex_run (fun r => lim_run (fn := Tryz.f74) fn74 rfl body74 (Nat.le_of_ble_eq_true rfl) ok74) ?_
    simp (config := { maxSteps := 1000000 }) (disch := omega) only [push_cast, ↓reduceIte, Nat.reduceEqDiff, Nat.reduceAdd, Nat.reduceLT, Nat.reduceLeDiff, Nat.reduceBEq, Nat.reduceMul, Nat.reduceSub, Int.reduceToNat, Int.reduceEq, Int.reduceLT, Int.reduceLE, Int.reduceNeg, Int.reduceAdd, Int.reduceSub, Int.reduceMul, Tryz.f74, kr74, ty3, ty4, ty34, ty83, ty86, ty88, ty120, tb4, ht, hr, hm, hq, hi, hz, bin_xor, a1, a2, a3, a4, a5, a6, Ex_ite, Ex_some, q3_mk, implies_true, ne_eq]
  · refine ex_run (fun r => lim_run (fn := Tryz.f74) fn74 rfl body74 (Nat.le_of_ble_eq_true rfl) ok74) ?_
    simp (config := { maxSteps := 1000000 }) (disch := omega) only [push_cast, ↓reduceIte, Nat.reduceEqDiff, Nat.reduceAdd, Nat.reduceLT, Nat.reduceLeDiff, Nat.reduceBEq, Nat.reduceMul, Nat.reduceSub, Int.reduceToNat, Int.reduceEq, Int.reduceLT, Int.reduceLE, Int.reduceNeg, Int.reduceAdd, Int.reduceSub, Int.reduceMul, Tryz.f74, kr74, ty3, ty4, ty34, ty83, ty86, ty88, ty120, tb4, ht, hr, hm, hq, hi, hz, bin_xor, a1, a2, a3, a4, a5, a6, Ex_ite, Ex_some, q3_mk, implies_true, ne_eq]
theorem f_Div (a b : Int) : Ex1 q3 (CALL 75 [I k, I 0, I a, I b]) := by
  have hs := okK_s hk
  obtain ⟨c1, s1, m1, e1, c2, s2, m2, e2, ht, ⟨r1, b1, b2⟩, ⟨r2, b3, b4⟩⟩ := f_two hk a b
  have hr := g_round hs
  obtain ⟨nq, hq⟩ := f_quiet hs
  obtain ⟨gi, hi⟩ := f_infN hs
  obtain ⟨gz, hz⟩ := f_zeroN hs
  have hh := f_high
  have l1 := lenQ_bd m1
  have l2 := lenQ_bd m2
  by_cases c : bitsOk p a ∧ bitsOk p b
  rotate_left
  · rw [decide_eq_false c] at ht
    refine ex_run (fun r => lim_run (fn := Tryz.f75) fn75 rfl body75 (Nat.le_of_ble_eq_true rfl) ok75) ?_
    simp (config := { maxSteps := 1000000 }) (disch := omega) only [push_cast, ↓reduceIte, Nat.reduceEqDiff, Nat.reduceAdd, Nat.reduceLT, Nat.reduceLeDiff, Nat.reduceBEq, Nat.reduceMul, Nat.reduceSub, Int.reduceToNat, Int.reduceEq, Int.reduceLT, Int.reduceLE, Int.reduceNeg, Int.reduceAdd, Int.reduceSub, Int.reduceMul, Tryz.f75, kr75, ty3, ty4, ty34, ty83, ty86, ty88, ty120, tb4, ht, Ex_ite, Ex_some, q3_mk]
  rw [decide_eq_true c] at ht
  by_cases a1 : c1 = 3
  · refine ex_run (fun r => lim_run (fn := Tryz.f75) fn75 rfl body75 (Nat.le_of_ble_eq_true rfl) ok75) ?_
    simp (config := { maxSteps := 1000000 }) (disch := omega) only [push_cast, ↓reduceIte, Nat.reduceEqDiff, Nat.reduceAdd, Nat.reduceLT, Nat.reduceLeDiff, Nat.reduceBEq, Nat.reduceMul, Nat.reduceSub, Int.reduceToNat, Int.reduceEq, Int.reduceLT, Int.reduceLE, Int.reduceNeg, Int.reduceAdd, Int.reduceSub, Int.reduceMul, Tryz.f75, kr75, ty3, ty4, ty34, ty83, ty86, ty88, ty120, tb4, ht, hq, hi, hz, bin_xor, a1, Ex_ite, Ex_some, q3_mk, implies_true, ne_eq]
  by_cases a2 : c2 = 3
  · refine ex_run (fun r => lim_run (fn := Tryz.f75) fn75 rfl body75 (Nat.le_of_ble_eq_true rfl) ok75) ?_
    simp (config := { maxSteps := 1000000 }) (disch := omega) only [push_cast, ↓reduceIte, Nat.reduceEqDiff, Nat.reduceAdd, Nat.reduceLT, Nat.reduceLeDiff, Nat.reduceBEq, Nat.reduceMul, Nat.reduceSub, Int.reduceToNat, Int.reduceEq, Int.reduceLT, Int.reduceLE, Int.reduceNeg, Int.reduceAdd, Int.reduceSub, Int.reduceMul, Tryz.f75, kr75, ty3, ty4, ty34, ty83, ty86, ty88, ty120, tb4, ht, hq, hi, hz, bin_xor, a1, a2, Ex_ite, Ex_some, q3_mk, implies_true, ne_eq]
  by_cases a3 : c1 = 2
  · subst a3
    by_cases a4 : c2 = 2
    · subst a4
      refine ex_run (fun r => lim_run (fn := Tryz.f75) fn75 rfl body75 (Nat.le_of_ble_eq_true rfl) ok75) ?_
      simp (config := { maxSteps := 1000000 }) (disch := omega) only [push_cast, ↓reduceIte, Nat.reduceEqDiff, Nat.reduceAdd, Nat.reduceLT, Nat.reduceLeDiff, Nat.reduceBEq, Nat.reduceMul, Nat.reduceSub, Int.reduceToNat, Int.reduceEq, Int.reduceLT, Int.reduceLE, Int.reduceNeg, Int.reduceAdd, Int.reduceSub, Int.reduceMul, Tryz.f75, kr75, ty3, ty4, ty34, ty83, ty86, ty88, ty120, tb4, ht, hq, hi, hz, bin_xor, Ex_ite, Ex_some, q3_mk, implies_true, ne_eq]
    · have a4' : ¬ 2 = c2 := fun h => a4 h.symm
      refine ex_run (fun r => lim_run (fn := Tryz.f75) fn75 rfl body75 (Nat.le_of_ble_eq_true rfl) ok75) ?_
      simp (config := { maxSteps := 1000000 }) (disch := omega) only [push_cast, ↓reduceIte, Nat.reduceEqDiff, Nat.reduceAdd, Nat.reduceLT, Nat.reduceLeDiff, Nat.reduceBEq, Nat.reduceMul, Nat.reduceSub, Int.reduceToNat, Int.reduceEq, Int.reduceLT, Int.reduceLE, Int.reduceNeg, Int.reduceAdd, Int.reduceSub, Int.reduceMul, Tryz.f75, kr75, ty3, ty4, ty34, ty83, ty86, ty88, ty120, tb4, ht, hq, hi, hz, bin_xor, a2, a4, a4', Ex_ite, Ex_some, q3_mk, implies_true, ne_eq]
  by_cases a4 : c1 = 0
  · subst a4
    by_cases a5 : c2 = 0
    · subst a5
      refine ex_run (fun r => lim_run (fn := Tryz.f75) fn75 rfl body75 (Nat.le_of_ble_eq_true rfl) ok75) ?_
      simp (config := { maxSteps := 1000000 }) (disch := omega) only [push_cast, ↓reduceIte, Nat.reduceEqDiff, Nat.reduceAdd, Nat.reduceLT, Nat.reduceLeDiff, Nat.reduceBEq, Nat.reduceMul, Nat.reduceSub, Int.reduceToNat, Int.reduceEq, Int.reduceLT, Int.reduceLE, Int.reduceNeg, Int.reduceAdd, Int.reduceSub, Int.reduceMul, Tryz.f75, kr75, ty3, ty4, ty34, ty83, ty86, ty88, ty120, tb4, ht, hq, hi, hz, bin_xor, Ex_ite, Ex_some, q3_mk, implies_true, ne_eq]
    · have a5' : ¬ 0 = c2 := fun h => a5 h.symm
      refine ex_run (fun r => lim_run (fn := Tryz.f75) fn75 rfl body75 (Nat.le_of_ble_eq_true rfl) ok75) ?_
      simp (config := { maxSteps := 1000000 }) (disch := omega) only [push_cast, ↓reduceIte, Nat.reduceEqDiff, Nat.reduceAdd, Nat.reduceLT, Nat.reduceLeDiff, Nat.reduceBEq, Nat.reduceMul, Nat.reduceSub, Int.reduceToNat, Int.reduceEq, Int.reduceLT, Int.reduceLE, Int.reduceNeg, Int.reduceAdd, Int.reduceSub, Int.reduceMul, Tryz.f75, kr75, ty3, ty4, ty34, ty83, ty86, ty88, ty120, tb4, ht, hq, hi, hz, bin_xor, a2, a5, a5', Ex_ite, Ex_some, q3_mk, implies_true, ne_eq]
  by_cases a5 : c2 = 2
  · subst a5
    refine ex_run (fun r => lim_run (fn := Tryz.f75) fn75 rfl body75 (Nat.le_of_ble_eq_true rfl) ok75) ?_
    simp (config := { maxSteps := 1000000 }) (disch := omega) only [push_cast, ↓reduceIte, Nat.reduceEqDiff, Nat.reduceAdd, Nat.reduceLT, Nat.reduceLeDiff, Nat.reduceBEq, Nat.reduceMul, Nat.reduceSub, Int.reduceToNat, Int.reduceEq, Int.reduceLT, Int.reduceLE, Int.reduceNeg, Int.reduceAdd, Int.reduceSub, Int.reduceMul, Tryz.f75, kr75, ty3, ty4, ty34, ty83, ty86, ty88, ty120, tb4, ht, hq, hi, hz, bin_xor, a1, a3, a4, Ex_ite, Ex_some, q3_mk, implies_true, ne_eq]
  by_cases a6 : c2 = 0
  · subst a6
    refine ex_run (fun r => lim_run (fn := Tryz.f75) fn75 rfl body75 (Nat.le_of_ble_eq_true rfl) ok75) ?_
    simp (config := { maxSteps := 1000000 }) (disch := omega) only [push_cast, ↓reduceIte, Nat.reduceEqDiff, Nat.reduceAdd, Nat.reduceLT, Nat.reduceLeDiff, Nat.reduceBEq, Nat.reduceMul, Nat.reduceSub, Int.reduceToNat, Int.reduceEq, Int.reduceLT, Int.reduceLE, Int.reduceNeg, Int.reduceAdd, Int.reduceSub, Int.reduceMul, Tryz.f75, kr75, ty3, ty4, ty34, ty83, ty86, ty88, ty120, tb4, ht, hq, hi, hz, bin_xor, a1, a3, a4, Ex_ite, Ex_some, q3_mk, implies_true, ne_eq]
  obtain ⟨n1, n2⟩ := r1 a4 a3 a1
  obtain ⟨n3, n4⟩ := r2 a6 a5 a2
  obtain ⟨t1, t2⟩ := top_bit n1 n2
  obtain ⟨t3, t4⟩ := top_bit n3 n4
  have t5 := shr1 (shlK .u64 m1 (64 - lenQ m1))
  have t6 : 0 ≤ shlK .u64 (shlK .u64 m1 (64 - lenQ m1)) 63 ∧ shlK .u64 (shlK .u64 m1 (64 - lenQ m1)) 63 < 18446744073709551616 := u64_bd _
  obtain ⟨dq, dr, hd⟩ := u_of (f_Div64 (shrK .u64 (shlK .u64 m1 (64 - lenQ m1)) 1) (shlK .u64 (shlK .u64 m1 (64 - lenQ m1)) 63) (shlK .u64 m2 (64 - lenQ m2)) (by omega) (by omega) t3 t4 t6.1 t6.2)
  by_cases a7 : c1 = c2
  · subst a7
    by_cases a8 : c1 = 1
    · refine ex_run (fun r => lim_run (fn := Tryz.f75) fn75 rfl body75 (Nat.le_of_ble_eq_true rfl) ok75) ?_
      simp (config := { maxSteps := 1000000 }) (disch := omega) only [push_cast, ↓reduceIte, Nat.reduceEqDiff, Nat.reduceAdd, Nat.reduceLT, Nat.reduceLeDiff, Nat.reduceBEq, Nat.reduceMul, Nat.reduceSub, Int.reduceToNat, Int.reduceEq, Int.reduceLT, Int.reduceLE, Int.reduceNeg, Int.reduceAdd, Int.reduceSub, Int.reduceMul, Tryz.f75, kr75, ty3, ty4, ty34, ty83, ty86, ty88, ty120, tb4, ht, hr, hd, hh, bin_shl, bin_shr, hq, hi, hz, bin_xor, a1, a3, a4, a8, Ex_ite, Ex_some, q3_mk, implies_true, ne_eq]
    · refine ex_run (fun r => lim_run (fn := Tryz.f75) fn75 rfl body75 (Nat.le_of_ble_eq_true rfl) ok75) ?_
      simp (config := { maxSteps := 1000000 }) (disch := omega) only [push_cast, ↓reduceIte, Nat.reduceEqDiff, Nat.reduceAdd, Nat.reduceLT, Nat.reduceLeDiff, Nat.reduceBEq, Nat.reduceMul, Nat.reduceSub, Int.reduceToNat, Int.reduceEq, Int.reduceLT, Int.reduceLE, Int.reduceNeg, Int.reduceAdd, Int.reduceSub, Int.reduceMul, Tryz.f75, kr75, ty3, ty4, ty34, ty83, ty86, ty88, ty120, tb4, ht, hr, hd, hh, bin_shl, bin_shr, hq, hi, hz, bin_xor, a1, a3, a4, a8, Ex_ite, Ex_some, q3_mk, implies_true, ne_eq]
  · refine ex_run (fun r => lim_run (fn := Tryz.f75) fn75 rfl body75 (Nat.le_of_ble_eq_true rfl) ok75) ?_
    simp (config := { maxSteps := 1000000 }) (disch := omega) only [push_cast, ↓reduceIte, Nat.reduceEqDiff, Nat.reduceAdd, Nat.reduceLT, Nat.reduceLeDiff, Nat.reduceBEq, Nat.reduceMul, Nat.reduceSub, Int.reduceToNat, Int.reduceEq, Int.reduceLT, Int.reduceLE, Int.reduceNeg, Int.reduceAdd, Int.reduceSub, Int.reduceMul, Tryz.f75, kr75, ty3, ty4, ty34, ty83, ty86, ty88, ty120, tb4, ht, hr, hd, hh, bin_shl, bin_shr, hq, hi, hz, bin_xor, a1, a2, a3, a4, a5, a6, a7, Ex_ite, Ex_some, q3_mk, implies_true, ne_eq]
theorem f_Compare (a b : Int) : Ex1 q2 (CALL 76 [I k, I a, I b]) := by
  have hs := okK_s hk
  obtain ⟨c1, s1, m1, e1, c2, s2, m2, e2, ht, _, _⟩ := f_two hk a b
  have hp : ∃ g : Int → Int, ∀ a, CALL 99 [Shp p w, I a] = some (I (g a), []) := by
    have : ∀ a, ∃ n, CALL 99 [Shp p w, I a] = some (I n, []) := fun a => by
      have hx : Ex1 q1 (CALL 99 [Shp p w, I a]) := by
        rcases hs with ⟨rfl, rfl⟩ | ⟨rfl, rfl⟩
        · refine ex_run (fun r => lim_run (fn := Tryz.f99) fn99 rfl body99 (Nat.le_of_ble_eq_true rfl) ok99) ?_
          simp (config := { maxSteps := 1000000 }) (disch := omega) only [push_cast, ↓reduceIte, Nat.reduceEqDiff, Nat.reduceAdd, Nat.reduceLT, Nat.reduceLeDiff, Nat.reduceBEq, Nat.reduceMul, Nat.reduceSub, Int.reduceToNat, Int.reduceEq, Int.reduceLT, Int.reduceLE, Int.reduceNeg, Int.reduceAdd, Int.reduceSub, Int.reduceMul, Tryz.f99, kr99, ty3, ty83, bin_shl, bin_shr, bin_and, bin_or, cv_iu, cv_ui, Ex_ite, Ex_some, q1_mk, implies_true, ne_eq]
        · refine ex_run (fun r => lim_run (fn := Tryz.f99) fn99 rfl body99 (Nat.le_of_ble_eq_true rfl) ok99) ?_
          simp (config := { maxSteps := 1000000 }) (disch := omega) only [push_cast, ↓reduceIte, Nat.reduceEqDiff, Nat.reduceAdd, Nat.reduceLT, Nat.reduceLeDiff, Nat.reduceBEq, Nat.reduceMul, Nat.reduceSub, Int.reduceToNat, Int.reduceEq, Int.reduceLT, Int.reduceLE, Int.reduceNeg, Int.reduceAdd, Int.reduceSub, Int.reduceMul, Tryz.f99, kr99, ty3, ty83, bin_shl, bin_shr, bin_and, bin_or, cv_iu, cv_ui, Ex_ite, Ex_some, q1_mk, implies_true, ne_eq]
      obtain ⟨r, h1, o, rfl⟩ := hx
      exact ⟨o, h1⟩
    exact ⟨fun a => Classical.choose (this a), fun a => Classical.choose_spec (this a)⟩
  obtain ⟨gp, hp⟩ := hp
  by_cases c : bitsOk p a ∧ bitsOk p b
  rotate_left
  · rw [decide_eq_false c] at ht
    refine ex_run (fun r => lim_run (fn := Tryz.f76) fn76 rfl body76 (Nat.le_of_ble_eq_true rfl) ok76) ?_
    simp (config := { maxSteps := 1000000 }) (disch := omega) only [push_cast, ↓reduceIte, Nat.reduceEqDiff, Nat.reduceAdd, Nat.reduceLT, Nat.reduceLeDiff, Nat.reduceBEq, Nat.reduceMul, Nat.reduceSub, Int.reduceToNat, Int.reduceEq, Int.reduceLT, Int.reduceLE, Int.reduceNeg, Int.reduceAdd, Int.reduceSub, Int.reduceMul, Tryz.f76, kr76, ty3, ty34, ty83, ty86, ty88, ht, Ex_ite, Ex_some, q2_mk]
  rw [decide_eq_true c] at ht
  by_cases a1 : c1 = 3
  · refine ex_run (fun r => lim_run (fn := Tryz.f76) fn76 rfl body76 (Nat.le_of_ble_eq_true rfl) ok76) ?_
    simp (config := { maxSteps := 1000000 }) (disch := omega) only [push_cast, ↓reduceIte, Nat.reduceEqDiff, Nat.reduceAdd, Nat.reduceLT, Nat.reduceLeDiff, Nat.reduceBEq, Nat.reduceMul, Nat.reduceSub, Int.reduceToNat, Int.reduceEq, Int.reduceLT, Int.reduceLE, Int.reduceNeg, Int.reduceAdd, Int.reduceSub, Int.reduceMul, Tryz.f76, kr76, ty3, ty34, ty83, ty86, ty88, ht, hp, a1, Ex_ite, Ex_some, q2_mk, implies_true, ne_eq]
  by_cases a2 : c2 = 3
  · refine ex_run (fun r => lim_run (fn := Tryz.f76) fn76 rfl body76 (Nat.le_of_ble_eq_true rfl) ok76) ?_
    simp (config := { maxSteps := 1000000 }) (disch := omega) only [push_cast, ↓reduceIte, Nat.reduceEqDiff, Nat.reduceAdd, Nat.reduceLT, Nat.reduceLeDiff, Nat.reduceBEq, Nat.reduceMul, Nat.reduceSub, Int.reduceToNat, Int.reduceEq, Int.reduceLT, Int.reduceLE, Int.reduceNeg, Int.reduceAdd, Int.reduceSub, Int.reduceMul, Tryz.f76, kr76, ty3, ty34, ty83, ty86, ty88, ht, hp, a1, a2, Ex_ite, Ex_some, q2_mk, implies_true, ne_eq]
  by_cases a3 : c1 = 0
  · refine ex_run (fun r => lim_run (fn := Tryz.f76) fn76 rfl body76 (Nat.le_of_ble_eq_true rfl) ok76) ?_
    simp (config := { maxSteps := 1000000 }) (disch := omega) only [push_cast, ↓reduceIte, Nat.reduceEqDiff, Nat.reduceAdd, Nat.reduceLT, Nat.reduceLeDiff, Nat.reduceBEq, Nat.reduceMul, Nat.reduceSub, Int.reduceToNat, Int.reduceEq, Int.reduceLT, Int.reduceLE, Int.reduceNeg, Int.reduceAdd, Int.reduceSub, Int.reduceMul, Tryz.f76, kr76, ty3, ty34, ty83, ty86, ty88, ht, hp, a1, a2, a3, Ex_ite, Ex_some, q2_mk, implies_true, ne_eq]
  · refine ex_run (fun r => lim_run (fn := Tryz.f76) fn76 rfl body76 (Nat.le_of_ble_eq_true rfl) ok76) ?_
    simp (config := { maxSteps := 1000000 }) (disch := omega) only [push_cast, ↓reduceIte, Nat.reduceEqDiff, Nat.reduceAdd, Nat.reduceLT, Nat.reduceLeDiff, Nat.reduceBEq, Nat.reduceMul, Nat.reduceSub, Int.reduceToNat, Int.reduceEq, Int.reduceLT, Int.reduceLE, Int.reduceNeg, Int.reduceAdd, Int.reduceSub, Int.reduceMul, Tryz.f76, kr76, ty3, ty34, ty83, ty86, ty88, ht, hp, a1, a2, a3, Ex_ite, Ex_some, q2_mk, implies_true, ne_eq]
theorem f_FromInt (n : Int) : Ex1 q3 (CALL 87 [I k, I 0, I n]) := by
  have hs := okK_s hk
  have ho := f_of hk
  have hr := g_round hs
  obtain ⟨gz, hz⟩ := f_zeroN hs
  by_cases a1 : n = 0
  · refine ex_run (fun r => lim_run (fn := Tryz.f87) fn87 rfl body87 (Nat.le_of_ble_eq_true rfl) ok87) ?_
    simp (config := { maxSteps := 1000000 }) (disch := omega) only [push_cast, ↓reduceIte, Nat.reduceEqDiff, Nat.reduceAdd, Nat.reduceLT, Nat.reduceLeDiff, Nat.reduceBEq, Nat.reduceMul, Nat.reduceSub, Int.reduceToNat, Int.reduceEq, Int.reduceLT, Int.reduceLE, Int.reduceNeg, Int.reduceAdd, Int.reduceSub, Int.reduceMul, Tryz.f87, kr87, ty3, ty4, ty34, ty83, ty86, ty120, tb4, ho, hr, hz, cv_iu, a1, Ex_ite, Ex_some, q3_mk, implies_true, ne_eq]
  by_cases a2 : n < 0
  · refine ex_run (fun r => lim_run (fn := Tryz.f87) fn87 rfl body87 (Nat.le_of_ble_eq_true rfl) ok87) ?_
    simp (config := { maxSteps := 1000000 }) (disch := omega) only [push_cast, ↓reduceIte, Nat.reduceEqDiff, Nat.reduceAdd, Nat.reduceLT, Nat.reduceLeDiff, Nat.reduceBEq, Nat.reduceMul, Nat.reduceSub, Int.reduceToNat, Int.reduceEq, Int.reduceLT, Int.reduceLE, Int.reduceNeg, Int.reduceAdd, Int.reduceSub, Int.reduceMul, Tryz.f87, kr87, ty3, ty4, ty34, ty83, ty86, ty120, tb4, ho, hr, hz, cv_iu, a1, a2, Ex_ite, Ex_some, q3_mk, implies_true, ne_eq]
  · refine ex_run (fun r => lim_run (fn := Tryz.f87) fn87 rfl body87 (Nat.le_of_ble_eq_true rfl) ok87) ?_
    simp (config := { maxSteps := 1000000 }) (disch := omega) only [push_cast, ↓reduceIte, Nat.reduceEqDiff, Nat.reduceAdd, Nat.reduceLT, Nat.reduceLeDiff, Nat.reduceBEq, Nat.reduceMul, Nat.reduceSub, Int.reduceToNat, Int.reduceEq, Int.reduceLT, Int.reduceLE, Int.reduceNeg, Int.reduceAdd, Int.reduceSub, Int.reduceMul, Tryz.f87, kr87, ty3, ty4, ty34, ty83, ty86, ty120, tb4, ho, hr, hz, cv_iu, a1, a2, Ex_ite, Ex_some, q3_mk, implies_true, ne_eq]
theorem f_Convert {k2 p2 w2 : Int} (hk2 : okK k2 p2 w2) (a : Int) : Ex1 q3 (CALL 89 [I k, I k2, I 0, I a]) := by
  have hs := okK_s hk2
  have ho := f_of hk2
  obtain ⟨c1, s1, m1, e1, c2, s2, m2, e2, ht, ⟨_, b1, b2⟩, _⟩ := f_two hk a a
  have hr := g_round hs
  obtain ⟨nq, hq⟩ := f_quiet hs
  obtain ⟨gi, hi⟩ := f_infN hs
  obtain ⟨gz, hz⟩ := f_zeroN hs
  by_cases c : bitsOk p a ∧ bitsOk p a
  rotate_left
  · rw [decide_eq_false c] at ht
    refine ex_run (fun r => lim_run (fn := Tryz.f89) fn89 rfl body89 (Nat.le_of_ble_eq_true rfl) ok89) ?_
    simp (config := { maxSteps := 1000000 }) (disch := omega) only [push_cast, ↓reduceIte, Nat.reduceEqDiff, Nat.reduceAdd, Nat.reduceLT, Nat.reduceLeDiff, Nat.reduceBEq, Nat.reduceMul, Nat.reduceSub, Int.reduceToNat, Int.reduceEq, Int.reduceLT, Int.reduceLE, Int.reduceNeg, Int.reduceAdd, Int.reduceSub, Int.reduceMul, Tryz.f89, kr89, ty3, ty4, ty34, ty83, ty86, ty88, ty120, tb4, ht, ho, Ex_ite, Ex_some, q3_mk]
  rw [decide_eq_true c] at ht
  by_cases a1 : c1 = 3
  · refine ex_run (fun r => lim_run (fn := Tryz.f89) fn89 rfl body89 (Nat.le_of_ble_eq_true rfl) ok89) ?_
    simp (config := { maxSteps := 1000000 }) (disch := omega) only [push_cast, ↓reduceIte, Nat.reduceEqDiff, Nat.reduceAdd, Nat.reduceLT, Nat.reduceLeDiff, Nat.reduceBEq, Nat.reduceMul, Nat.reduceSub, Int.reduceToNat, Int.reduceEq, Int.reduceLT, Int.reduceLE, Int.reduceNeg, Int.reduceAdd, Int.reduceSub, Int.reduceMul, Tryz.f89, kr89, ty3, ty4, ty34, ty83, ty86, ty88, ty120, tb4, ht, ho, hr, hq, hi, hz, a1, Ex_ite, Ex_some, q3_mk, implies_true, ne_eq]
  by_cases a2 : c1 = 2
  · refine ex_run (fun r => lim_run (fn := Tryz.f89) fn89 rfl body89 (Nat.le_of_ble_eq_true rfl) ok89) ?_
    simp (config := { maxSteps := 1000000 }) (disch := omega) only [push_cast, ↓reduceIte, Nat.reduceEqDiff, Nat.reduceAdd, Nat.reduceLT, Nat.reduceLeDiff, Nat.reduceBEq, Nat.reduceMul, Nat.reduceSub, Int.reduceToNat, Int.reduceEq, Int.reduceLT, Int.reduceLE, Int.reduceNeg, Int.reduceAdd, Int.reduceSub, Int.reduceMul, Tryz.f89, kr89, ty3, ty4, ty34, ty83, ty86, ty88, ty120, tb4, ht, ho, hr, hq, hi, hz, a1, a2, Ex_ite, Ex_some, q3_mk, implies_true, ne_eq]
  by_cases a3 : c1 = 0
  · refine ex_run (fun r => lim_run (fn := Tryz.f89) fn89 rfl body89 (Nat.le_of_ble_eq_true rfl) ok89) ?_
    simp (config := { maxSteps := 1000000 }) (disch := omega) only [push_cast, ↓reduceIte, Nat.reduceEqDiff, Nat.reduceAdd, Nat.reduceLT, Nat.reduceLeDiff, Nat.reduceBEq, Nat.reduceMul, Nat.reduceSub, Int.reduceToNat, Int.reduceEq, Int.reduceLT, Int.reduceLE, Int.reduceNeg, Int.reduceAdd, Int.reduceSub, Int.reduceMul, Tryz.f89, kr89, ty3, ty4, ty34, ty83, ty86, ty88, ty120, tb4, ht, ho, hr, hq, hi, hz, a1, a2, a3, Ex_ite, Ex_some, q3_mk, implies_true, ne_eq]
  · refine ex_run (fun r => lim_run (fn := Tryz.f89) fn89 rfl body89 (Nat.le_of_ble_eq_true rfl) ok89) ?_
    simp (config := { maxSteps := 1000000 }) (disch := omega) only [push_cast, ↓reduceIte, Nat.reduceEqDiff, Nat.reduceAdd, Nat.reduceLT, Nat.reduceLeDiff, Nat.reduceBEq, Nat.reduceMul, Nat.reduceSub, Int.reduceToNat, Int.reduceEq, Int.reduceLT, Int.reduceLE, Int.reduceNeg, Int.reduceAdd, Int.reduceSub, Int.reduceMul, Tryz.f89, kr89, ty3, ty4, ty34, ty83, ty86, ty88, ty120, tb4, ht, ho, hr, hq, hi, hz, a1, a2, a3, Ex_ite, Ex_some, q3_mk, implies_true, ne_eq]
end
end Go.Proofs.YtnbijiopcgfmfaaGreat.Tev
/- Values: kinds, what fits, what becomes of a number in another kind. -/
namespace Go.Proofs.YtnbijiopcgfmfaaGreat.Tev
open Go Go.RowKit Go.Proofs Go.Proofs.YtnbijiopcgfmfaaGreat.Q
set_option linter.unusedSectionVars false
set_option maxRecDepth 100000
set_option maxHeartbeats 0
set_option linter.unusedSimpArgs false
set_option linter.unusedVariables false
def bytesQ (k : Int) : Int := if k = 3 then 4 else if k = 4 then 8 else 0
theorem a_bytes (k : Int) : CALL 32 [I k] = some (I (bytesQ k), []) := by
  unfold bytesQ
  by_cases c1 : k = 3
  · refine lim_run (fn := Tryz.f32) fn32 rfl body32 (Nat.le_of_ble_eq_true rfl) ok32 ?_
    simp (config := { maxSteps := 1000000 }) (disch := omega) only [push_cast, ↓reduceIte, Nat.reduceEqDiff, Nat.reduceAdd, Nat.reduceLT, Nat.reduceLeDiff, Nat.reduceBEq, Nat.reduceMul, Nat.reduceSub, Int.reduceToNat, Int.reduceEq, Int.reduceLT, Int.reduceLE, Int.reduceNeg, Int.reduceAdd, Int.reduceSub, Int.reduceMul, Tryz.f32, kr32, ty3, c1]
  by_cases c2 : k = 4
  · refine lim_run (fn := Tryz.f32) fn32 rfl body32 (Nat.le_of_ble_eq_true rfl) ok32 ?_
    simp (config := { maxSteps := 1000000 }) (disch := omega) only [push_cast, ↓reduceIte, Nat.reduceEqDiff, Nat.reduceAdd, Nat.reduceLT, Nat.reduceLeDiff, Nat.reduceBEq, Nat.reduceMul, Nat.reduceSub, Int.reduceToNat, Int.reduceEq, Int.reduceLT, Int.reduceLE, Int.reduceNeg, Int.reduceAdd, Int.reduceSub, Int.reduceMul, Tryz.f32, kr32, ty3, c1, c2]
  · refine lim_run (fn := Tryz.f32) fn32 rfl body32 (Nat.le_of_ble_eq_true rfl) ok32 ?_
    simp (config := { maxSteps := 1000000 }) (disch := omega) only [push_cast, ↓reduceIte, Nat.reduceEqDiff, Nat.reduceAdd, Nat.reduceLT, Nat.reduceLeDiff, Nat.reduceBEq, Nat.reduceMul, Nat.reduceSub, Int.reduceToNat, Int.reduceEq, Int.reduceLT, Int.reduceLE, Int.reduceNeg, Int.reduceAdd, Int.reduceSub, Int.reduceMul, Tryz.f32, kr32, ty3, c1, c2]
def numQ (k : Int) : Prop := k = 1 ∨ k = 3 ∨ k = 4
instance (k : Int) : Decidable (numQ k) := by unfold numQ; infer_instance
theorem a_isNumber (k : Int) : CALL 41 [I k] = some (B (decide (numQ k)), []) := by
  have hb := a_bytes k
  by_cases c0 : k = 1
  · rw [decide_eq_true (show numQ k from .inl c0)]
    refine lim_run (fn := Tryz.f41) fn41 rfl body41 (Nat.le_of_ble_eq_true rfl) ok41 ?_
    simp (config := { maxSteps := 1000000 }) (disch := omega) only [push_cast, ↓reduceIte, Nat.reduceEqDiff, Nat.reduceAdd, Nat.reduceLT, Nat.reduceLeDiff, Nat.reduceBEq, Nat.reduceMul, Nat.reduceSub, Int.reduceToNat, Int.reduceEq, Int.reduceLT, Int.reduceLE, Int.reduceNeg, Int.reduceAdd, Int.reduceSub, Int.reduceMul, Tryz.f41, kr41, ty4, tb4, hb, c0]
  by_cases c1 : k = 3
  · rw [decide_eq_true (show numQ k from .inr (.inl c1))]
    subst c1
    have e : bytesQ 3 = 4 := rfl
    refine lim_run (fn := Tryz.f41) fn41 rfl body41 (Nat.le_of_ble_eq_true rfl) ok41 ?_
    simp (config := { maxSteps := 1000000 }) (disch := omega) only [push_cast, ↓reduceIte, Nat.reduceEqDiff, Nat.reduceAdd, Nat.reduceLT, Nat.reduceLeDiff, Nat.reduceBEq, Nat.reduceMul, Nat.reduceSub, Int.reduceToNat, Int.reduceEq, Int.reduceLT, Int.reduceLE, Int.reduceNeg, Int.reduceAdd, Int.reduceSub, Int.reduceMul, Tryz.f41, kr41, ty4, tb4, hb, e]
  by_cases c2 : k = 4
  · rw [decide_eq_true (show numQ k from .inr (.inr c2))]
    subst c2
    have e : bytesQ 4 = 8 := rfl
    refine lim_run (fn := Tryz.f41) fn41 rfl body41 (Nat.le_of_ble_eq_true rfl) ok41 ?_
    simp (config := { maxSteps := 1000000 }) (disch := omega) only [push_cast, ↓reduceIte, Nat.reduceEqDiff, Nat.reduceAdd, Nat.reduceLT, Nat.reduceLeDiff, Nat.reduceBEq, Nat.reduceMul, Nat.reduceSub, Int.reduceToNat, Int.reduceEq, Int.reduceLT, Int.reduceLE, Int.reduceNeg, Int.reduceAdd, Int.reduceSub, Int.reduceMul, Tryz.f41, kr41, ty4, tb4, hb, e]
  · rw [decide_eq_false (show ¬ numQ k from fun h => by unfold numQ at h; omega)]
    have e : bytesQ k = 0 := by unfold bytesQ; rw [if_neg c1, if_neg c2]
    refine lim_run (fn := Tryz.f41) fn41 rfl body41 (Nat.le_of_ble_eq_true rfl) ok41 ?_
    simp (config := { maxSteps := 1000000 }) (disch := omega) only [push_cast, ↓reduceIte, Nat.reduceEqDiff, Nat.reduceAdd, Nat.reduceLT, Nat.reduceLeDiff, Nat.reduceBEq, Nat.reduceMul, Nat.reduceSub, Int.reduceToNat, Int.reduceEq, Int.reduceLT, Int.reduceLE, Int.reduceNeg, Int.reduceAdd, Int.reduceSub, Int.reduceMul, Tryz.f41, kr41, ty4, tb4, hb, e, c0]
def fitsQ (k n : Int) : Prop := (k = 1 ∧ -2147483647 ≤ n ∧ n ≤ 2147483647) ∨ (k = 2 ∧ (n = 0 ∨ n = 1)) ∨ (k = 3 ∧ bitsOk 24 n) ∨ k = 4
instance (k n : Int) : Decidable (fitsQ k n) := by unfold fitsQ; infer_instance
theorem a_fits (k n : Int) : CALL 16 [I k, I n] = some (B (decide (fitsQ k n)), []) := by
  by_cases c1 : k = 1
  · subst c1
    by_cases d1 : -2147483647 ≤ n
    · by_cases d2 : n ≤ 2147483647
      · rw [decide_eq_true (show fitsQ 1 n from .inl ⟨rfl, d1, d2⟩)]
        refine lim_run (fn := Tryz.f16) fn16 rfl body16 (Nat.le_of_ble_eq_true rfl) ok16 ?_
        simp (config := { maxSteps := 1000000 }) (disch := omega) only [push_cast, ↓reduceIte, Nat.reduceEqDiff, Nat.reduceAdd, Nat.reduceLT, Nat.reduceLeDiff, Nat.reduceBEq, Nat.reduceMul, Nat.reduceSub, Int.reduceToNat, Int.reduceEq, Int.reduceLT, Int.reduceLE, Int.reduceNeg, Int.reduceAdd, Int.reduceSub, Int.reduceMul, Tryz.f16, kr16, ty4, tb4, d1, d2]
      · rw [decide_eq_false (show ¬ fitsQ 1 n from fun h => by unfold fitsQ at h; omega)]
        refine lim_run (fn := Tryz.f16) fn16 rfl body16 (Nat.le_of_ble_eq_true rfl) ok16 ?_
        simp (config := { maxSteps := 1000000 }) (disch := omega) only [push_cast, ↓reduceIte, Nat.reduceEqDiff, Nat.reduceAdd, Nat.reduceLT, Nat.reduceLeDiff, Nat.reduceBEq, Nat.reduceMul, Nat.reduceSub, Int.reduceToNat, Int.reduceEq, Int.reduceLT, Int.reduceLE, Int.reduceNeg, Int.reduceAdd, Int.reduceSub, Int.reduceMul, Tryz.f16, kr16, ty4, tb4, d1, d2]
    · rw [decide_eq_false (show ¬ fitsQ 1 n from fun h => by unfold fitsQ at h; omega)]
      refine lim_run (fn := Tryz.f16) fn16 rfl body16 (Nat.le_of_ble_eq_true rfl) ok16 ?_
      simp (config := { maxSteps := 1000000 }) (disch := omega) only [push_cast, ↓reduceIte, Nat.reduceEqDiff, Nat.reduceAdd, Nat.reduceLT, Nat.reduceLeDiff, Nat.reduceBEq, Nat.reduceMul, Nat.reduceSub, Int.reduceToNat, Int.reduceEq, Int.reduceLT, Int.reduceLE, Int.reduceNeg, Int.reduceAdd, Int.reduceSub, Int.reduceMul, Tryz.f16, kr16, ty4, tb4, d1]
  by_cases c2 : k = 2
  · subst c2
    by_cases d1 : n = 0
    · rw [decide_eq_true (show fitsQ 2 n from .inr (.inl ⟨rfl, .inl d1⟩))]
      refine lim_run (fn := Tryz.f16) fn16 rfl body16 (Nat.le_of_ble_eq_true rfl) ok16 ?_
      simp (config := { maxSteps := 1000000 }) (disch := omega) only [push_cast, ↓reduceIte, Nat.reduceEqDiff, Nat.reduceAdd, Nat.reduceLT, Nat.reduceLeDiff, Nat.reduceBEq, Nat.reduceMul, Nat.reduceSub, Int.reduceToNat, Int.reduceEq, Int.reduceLT, Int.reduceLE, Int.reduceNeg, Int.reduceAdd, Int.reduceSub, Int.reduceMul, Tryz.f16, kr16, ty4, tb4, d1]
    · by_cases d2 : n = 1
      · rw [decide_eq_true (show fitsQ 2 n from .inr (.inl ⟨rfl, .inr d2⟩))]
        refine lim_run (fn := Tryz.f16) fn16 rfl body16 (Nat.le_of_ble_eq_true rfl) ok16 ?_
        simp (config := { maxSteps := 1000000 }) (disch := omega) only [push_cast, ↓reduceIte, Nat.reduceEqDiff, Nat.reduceAdd, Nat.reduceLT, Nat.reduceLeDiff, Nat.reduceBEq, Nat.reduceMul, Nat.reduceSub, Int.reduceToNat, Int.reduceEq, Int.reduceLT, Int.reduceLE, Int.reduceNeg, Int.reduceAdd, Int.reduceSub, Int.reduceMul, Tryz.f16, kr16, ty4, tb4, d1, d2]
      · rw [decide_eq_false (show ¬ fitsQ 2 n from fun h => by unfold fitsQ at h; omega)]
        refine lim_run (fn := Tryz.f16) fn16 rfl body16 (Nat.le_of_ble_eq_true rfl) ok16 ?_
        simp (config := { maxSteps := 1000000 }) (disch := omega) only [push_cast, ↓reduceIte, Nat.reduceEqDiff, Nat.reduceAdd, Nat.reduceLT, Nat.reduceLeDiff, Nat.reduceBEq, Nat.reduceMul, Nat.reduceSub, Int.reduceToNat, Int.reduceEq, Int.reduceLT, Int.reduceLE, Int.reduceNeg, Int.reduceAdd, Int.reduceSub, Int.reduceMul, Tryz.f16, kr16, ty4, tb4, d1, d2]
  by_cases c3 : k = 3
  · subst c3
    have hb := a_bytes 3
    rw [show bytesQ 3 = 4 from rfl] at hb
    have hv := f_Valid (k := 4) (p := 24) (w := 8) (.inl ⟨rfl, rfl, rfl⟩) n
    rw [show decide (fitsQ 3 n) = decide (bitsOk 24 n) from by by_cases h : bitsOk 24 n <;> simp [fitsQ, h]]
    refine lim_run (fn := Tryz.f16) fn16 rfl body16 (Nat.le_of_ble_eq_true rfl) ok16 ?_
    simp (config := { maxSteps := 1000000 }) (disch := omega) only [push_cast, ↓reduceIte, Nat.reduceEqDiff, Nat.reduceAdd, Nat.reduceLT, Nat.reduceLeDiff, Nat.reduceBEq, Nat.reduceMul, Nat.reduceSub, Int.reduceToNat, Int.reduceEq, Int.reduceLT, Int.reduceLE, Int.reduceNeg, Int.reduceAdd, Int.reduceSub, Int.reduceMul, Tryz.f16, kr16, ty4, tb4, hb, hv]
  by_cases c4 : k = 4
  · subst c4
    have hb := a_bytes 4
    rw [show bytesQ 4 = 8 from rfl] at hb
    have hv := f_Valid (k := 8) (p := 53) (w := 11) (.inr ⟨rfl, rfl, rfl⟩) n
    rw [decide_eq_true (show bitsOk 53 n from fun h => absurd h (by decide))] at hv
    rw [decide_eq_true (show fitsQ 4 n from .inr (.inr (.inr rfl)))]
    refine lim_run (fn := Tryz.f16) fn16 rfl body16 (Nat.le_of_ble_eq_true rfl) ok16 ?_
    simp (config := { maxSteps := 1000000 }) (disch := omega) only [push_cast, ↓reduceIte, Nat.reduceEqDiff, Nat.reduceAdd, Nat.reduceLT, Nat.reduceLeDiff, Nat.reduceBEq, Nat.reduceMul, Nat.reduceSub, Int.reduceToNat, Int.reduceEq, Int.reduceLT, Int.reduceLE, Int.reduceNeg, Int.reduceAdd, Int.reduceSub, Int.reduceMul, Tryz.f16, kr16, ty4, tb4, hb, hv]
  · rw [decide_eq_false (show ¬ fitsQ k n from fun h => by unfold fitsQ at h; omega)]
    refine lim_run (fn := Tryz.f16) fn16 rfl body16 (Nat.le_of_ble_eq_true rfl) ok16 ?_
    simp (config := { maxSteps := 1000000 }) (disch := omega) only [push_cast, ↓reduceIte, Nat.reduceEqDiff, Nat.reduceAdd, Nat.reduceLT, Nat.reduceLeDiff, Nat.reduceBEq, Nat.reduceMul, Nat.reduceSub, Int.reduceToNat, Int.reduceEq, Int.reduceLT, Int.reduceLE, Int.reduceNeg, Int.reduceAdd, Int.reduceSub, Int.reduceMul, Tryz.f16, kr16, ty4, tb4, c1, c2, c3, c4]
abbrev Vl (k n : Int) : T := .agg [I k, I n]
theorem a_IsValue (k n : Int) : CALL 25 [Vl k n] = some (B (decide (fitsQ k n)), []) := by
  have h := a_fits k n
  refine lim_run (fn := Tryz.f25) fn25 rfl body25 (Nat.le_of_ble_eq_true rfl) ok25 ?_
  simp (config := { maxSteps := 1000000 }) (disch := omega) only [push_cast, ↓reduceIte, Nat.reduceEqDiff, Nat.reduceAdd, Nat.reduceLT, Nat.reduceLeDiff, Nat.reduceBEq, Nat.reduceMul, Nat.reduceSub, Int.reduceToNat, Int.reduceEq, Int.reduceLT, Int.reduceLE, Int.reduceNeg, Int.reduceAdd, Int.reduceSub, Int.reduceMul, Tryz.f25, kr25, ty3, ty4, ty38, tb4, h]
theorem a_logical (b : Bool) : CALL 45 [B b] = some (Vl 2 (if b = true then 1 else 0), []) := by
  cases b
  · refine lim_run (fn := Tryz.f45) fn45 rfl body45 (Nat.le_of_ble_eq_true rfl) ok45 ?_
    simp (config := { maxSteps := 1000000 }) (disch := omega) only [push_cast, ↓reduceIte, Nat.reduceEqDiff, Nat.reduceAdd, Nat.reduceLT, Nat.reduceLeDiff, Nat.reduceBEq, Nat.reduceMul, Nat.reduceSub, Int.reduceToNat, Int.reduceEq, Int.reduceLT, Int.reduceLE, Int.reduceNeg, Int.reduceAdd, Int.reduceSub, Int.reduceMul, Tryz.f45, kr45, ty3, ty38]
  · refine lim_run (fn := Tryz.f45) fn45 rfl body45 (Nat.le_of_ble_eq_true rfl) ok45 ?_
    simp (config := { maxSteps := 1000000 }) (disch := omega) only [push_cast, ↓reduceIte, Nat.reduceEqDiff, Nat.reduceAdd, Nat.reduceLT, Nat.reduceLeDiff, Nat.reduceBEq, Nat.reduceMul, Nat.reduceSub, Int.reduceToNat, Int.reduceEq, Int.reduceLT, Int.reduceLE, Int.reduceNeg, Int.reduceAdd, Int.reduceSub, Int.reduceMul, Tryz.f45, kr45, ty3, ty38]
def qv (K : Int) (r : R) : Prop := ∃ k n e, r = (.tup [Vl k n, I e], []) ∧ (e = 0 → k = K)
theorem qv_mk (K k n e : Int) : qv K (.tup [.agg [.c (.v (.int .i64 k)), .c (.v (.int .i64 n))], .c (.v (.int .i64 e))], []) ↔ (e = 0 → k = K) :=
  ⟨fun ⟨k', n', e', h1, h2⟩ => by
    simp only [Prod.mk.injEq, T.tup.injEq, List.cons.injEq, T.agg.injEq, T.c.injEq, C.v.injEq, Value.int.injEq, true_and, and_true] at h1
    obtain ⟨⟨rfl, rfl⟩, rfl⟩ := h1
    exact h2, fun h => ⟨k, n, e, rfl, h⟩⟩
theorem a_integer (n : Int) : Ex1 (qv 1) (CALL 71 [I n]) := by
  have h := a_fits 1 n
  by_cases c : fitsQ 1 n
  · rw [decide_eq_true c] at h
    refine ex_run (fun r => lim_run (fn := Tryz.f71) fn71 rfl body71 (Nat.le_of_ble_eq_true rfl) ok71) ?_
    simp (config := { maxSteps := 1000000 }) (disch := omega) only [push_cast, ↓reduceIte, Nat.reduceEqDiff, Nat.reduceAdd, Nat.reduceLT, Nat.reduceLeDiff, Nat.reduceBEq, Nat.reduceMul, Nat.reduceSub, Int.reduceToNat, Int.reduceEq, Int.reduceLT, Int.reduceLE, Int.reduceNeg, Int.reduceAdd, Int.reduceSub, Int.reduceMul, Tryz.f71, kr71, ty3, ty34, ty38, h, Ex_ite, Ex_some, qv_mk, implies_true, false_implies]
  · rw [decide_eq_false c] at h
    refine ex_run (fun r => lim_run (fn := Tryz.f71) fn71 rfl body71 (Nat.le_of_ble_eq_true rfl) ok71) ?_
    simp (config := { maxSteps := 1000000 }) (disch := omega) only [push_cast, ↓reduceIte, Nat.reduceEqDiff, Nat.reduceAdd, Nat.reduceLT, Nat.reduceLeDiff, Nat.reduceBEq, Nat.reduceMul, Nat.reduceSub, Int.reduceToNat, Int.reduceEq, Int.reduceLT, Int.reduceLE, Int.reduceNeg, Int.reduceAdd, Int.reduceSub, Int.reduceMul, Tryz.f71, kr71, ty3, ty34, ty38, h, Ex_ite, Ex_some, qv_mk, implies_true, false_implies]
/-- What a number becomes in a greater kind. -/
theorem a_to (K k n : Int) (hK : numQ K) (hk : numQ k) (h : k ≤ K) : ∃ m, CALL 70 [I K, Vl k n] = some (.tup [Vl K m, I 0], []) := by
  by_cases c1 : K = k
  · subst c1
    refine ⟨n, ?_⟩
    refine lim_run (fn := Tryz.f70) fn70 rfl body70 (Nat.le_of_ble_eq_true rfl) ok70 ?_
    simp (config := { maxSteps := 1000000 }) (disch := omega) only [push_cast, ↓reduceIte, Nat.reduceEqDiff, Nat.reduceAdd, Nat.reduceLT, Nat.reduceLeDiff, Nat.reduceBEq, Nat.reduceMul, Nat.reduceSub, Int.reduceToNat, Int.reduceEq, Int.reduceLT, Int.reduceLE, Int.reduceNeg, Int.reduceAdd, Int.reduceSub, Int.reduceMul, Tryz.f70, kr70, ty3, ty34, ty38]
  have n1 := a_isNumber K
  have n2 := a_isNumber k
  rw [decide_eq_true hK] at n1
  rw [decide_eq_true hk] at n2
  have b1 := a_bytes K
  have b2 := a_bytes k
  have hK' : ∃ p w, okK (bytesQ K) p w := by
    have : K = 3 ∨ K = 4 := by unfold numQ at *; omega
    rcases this with rfl | rfl
    · exact ⟨24, 8, .inl ⟨rfl, rfl, rfl⟩⟩
    · exact ⟨53, 11, .inr ⟨rfl, rfl, rfl⟩⟩
  obtain ⟨p, w, hKK⟩ := hK'
  have c2 : ¬ K = 1 := by unfold numQ at *; omega
  by_cases c3 : k = 1
  · subst c3
    obtain ⟨o, f, e, hf⟩ := three_of (f_FromInt hKK n)
    refine ⟨o, ?_⟩
    refine lim_run (fn := Tryz.f70) fn70 rfl body70 (Nat.le_of_ble_eq_true rfl) ok70 ?_
    simp (config := { maxSteps := 1000000 }) (disch := omega) only [push_cast, ↓reduceIte, Nat.reduceEqDiff, Nat.reduceAdd, Nat.reduceLT, Nat.reduceLeDiff, Nat.reduceBEq, Nat.reduceMul, Nat.reduceSub, Int.reduceToNat, Int.reduceEq, Int.reduceLT, Int.reduceLE, Int.reduceNeg, Int.reduceAdd, Int.reduceSub, Int.reduceMul, Tryz.f70, kr70, ty3, ty34, ty38, n1, n2, b1, b2, hf, c1, c2]
  · have hkk : okK (bytesQ k) 24 8 := by
      have : k = 3 := by unfold numQ at *; omega
      subst this
      exact .inl ⟨rfl, rfl, rfl⟩
    obtain ⟨o, f, e, hf⟩ := three_of (f_Convert hkk hKK n)
    refine ⟨o, ?_⟩
    refine lim_run (fn := Tryz.f70) fn70 rfl body70 (Nat.le_of_ble_eq_true rfl) ok70 ?_
    simp (config := { maxSteps := 1000000 }) (disch := omega) only [push_cast, ↓reduceIte, Nat.reduceEqDiff, Nat.reduceAdd, Nat.reduceLT, Nat.reduceLeDiff, Nat.reduceBEq, Nat.reduceMul, Nat.reduceSub, Int.reduceToNat, Int.reduceEq, Int.reduceLT, Int.reduceLE, Int.reduceNeg, Int.reduceAdd, Int.reduceSub, Int.reduceMul, Tryz.f70, kr70, ty3, ty34, ty38, n1, n2, b1, b2, hf, c1, c2, c3]
end Go.Proofs.YtnbijiopcgfmfaaGreat.Tev
/- section.isNumber. -/
namespace Go.Proofs.YtnbijiopcgfmfaaGreat.Tev
open Go Go.RowKit Go.Proofs Go.Proofs.YtnbijiopcgfmfaaGreat.Q
set_option linter.unusedSectionVars false
set_option maxRecDepth 100000
set_option maxHeartbeats 0
set_option linter.unusedSimpArgs false
set_option linter.unusedVariables false
theorem c_isNumber (n : Int) : CALL 50 [I n] = some (B (decide (nearS n)), []) := by
  refine lim_run (fn := Tryz.f50) fn50 rfl body50 (Nat.le_of_ble_eq_true rfl) ok50 ?_
  simp (config := { maxSteps := 1000000 }) (disch := omega) only [push_cast, ↓reduceIte, Nat.reduceEqDiff, Nat.reduceAdd, Nat.reduceLT, Nat.reduceLeDiff, Nat.reduceBEq, Nat.reduceMul, Nat.reduceSub, Int.reduceToNat, Int.reduceEq, Int.reduceLT, Int.reduceLE, Int.reduceNeg, Int.reduceAdd, Int.reduceSub, Int.reduceMul, Tryz.f50, kr50, ty4, tb4]
  unfold nearS
  by_cases h : -2147483648 ≤ n <;> simp [h]
end Go.Proofs.YtnbijiopcgfmfaaGreat.Tev
