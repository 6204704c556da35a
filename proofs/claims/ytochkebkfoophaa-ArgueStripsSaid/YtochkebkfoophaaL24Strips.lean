/- The law ArgueStrips: what it returns for any descriptor. -/
import Derived.Test.YtochkebkfoophaaC24t
import Derived.Test.YtochkebkfoophaaL24Packs
namespace Go.Proofs.Ytochkebkfoophaa.Tev
open Go Go.RowKit Go.Proofs Go.Proofs.Ytochkebkfoophaa.Q
set_option linter.unusedSectionVars false
set_option maxRecDepth 100000
set_option maxHeartbeats 0
set_option linter.unusedSimpArgs false
set_option linter.unusedVariables false
theorem r_Same2 (base : Int) (b1 b2 b3 b4 : Bool) (c1 c2 c3 c4 : Option Nat) (E S : List Int) (h1 : (E.length : Int) ≤ 9223372036854775806) (h2 : (S.length : Int) ≤ 9223372036854775806) :
    CALL 20 [Dsc base b1 c1 E b2 c2 S, Dsc base b3 c3 E b4 c4 S] = some (B true, []) := by
  have s1 := r_SameInts b1 b3 c1 c3 E E h1
  have s2 := r_SameInts b2 b4 c2 c4 S S h2
  rw [decide_eq_true rfl] at s1 s2
  refine lim_run (fn := Try.f20) fn20 rfl body20 (Nat.le_of_ble_eq_true rfl) ok20 ?_
  simp (config := { maxSteps := 1000000 }) (disch := omega) only [push_cast, ↓reduceIte, Nat.reduceEqDiff, Nat.reduceAdd, Nat.reduceLT, Nat.reduceLeDiff, Nat.reduceBEq, Nat.reduceMul, Nat.reduceSub, Int.reduceToNat, Int.reduceEq, Int.reduceLT, Int.reduceLE, Int.reduceNeg, Int.reduceAdd, Int.reduceSub, Int.reduceMul, Try.f20, kr20, ty3, ty4, ty22, ty34, tb4, s1, s2]
theorem ArgueStrips_true' (b : Int) (E S : List Int) (hb : b ≤ 9223372036854775807) (hE : (E.length : Int) ≤ 9223372036854775806) (hS : (S.length : Int) ≤ 9223372036854775806) :
    CALL 5 [Dsc b true none E true none S] = some (B true, []) := by
  have h1 := c_Strip b true true none none E S hE hS
  have h2 := r_Strip b true true none none E S hb
  obtain ⟨l1, l2⟩ := st_len (b := b) (E := E) (S := S)
  have h3 := fun b1 b2 b3 b4 c1 c2 c3 c4 => r_Same2 (stB b E S) b1 b2 b3 b4 c1 c2 c3 c4 (stE b E S) (stT b E S) (by omega) (by omega)
  refine lim_run (fn := Try.f5) fn5 rfl body5 (Nat.le_of_ble_eq_true rfl) ok5 ?_
  by_cases hd : okD b E S
  · obtain ⟨k1, k2⟩ := strip_all hd
    have p1 := r_Places b true true none none E S hb
    have p2 := fun b1 b2 c1 c2 => r_Places (stB b E S) b1 b2 c1 c2 (stE b E S) (stT b E S) (by unfold stB; split <;> omega)
    have n1 := placesQ_len b E S
    have s1 := fun b1 b2 c1 c2 => r_SameInts b1 b2 c1 c2 (placesQ b E S) (placesQ b E S) (by omega)
    rw [decide_eq_true rfl] at s1
    rw [k2, errD_ok.2 k1] at p2
    rw [errD_ok.2 hd] at p1 h1 h2
    simp (config := { maxSteps := 1000000 }) (disch := omega) only [push_cast, ↓reduceIte, Nat.reduceEqDiff, Nat.reduceAdd, Nat.reduceLT, Nat.reduceLeDiff, Nat.reduceBEq, Nat.reduceMul, Nat.reduceSub, Int.reduceToNat, Int.reduceEq, Int.reduceLT, Int.reduceLE, Int.reduceNeg, Int.reduceAdd, Int.reduceSub, Int.reduceMul, Try.f5, kr5, ty3, ty4, ty22, ty34, tb4, h1, h2, h3, p1, p2, s1, c_Awake, ne_eq]
  · rw [show errD b E S = 2 from if_neg hd] at h1 h2
    simp (config := { maxSteps := 1000000 }) (disch := omega) only [push_cast, ↓reduceIte, Nat.reduceEqDiff, Nat.reduceAdd, Nat.reduceLT, Nat.reduceLeDiff, Nat.reduceBEq, Nat.reduceMul, Nat.reduceSub, Int.reduceToNat, Int.reduceEq, Int.reduceLT, Int.reduceLE, Int.reduceNeg, Int.reduceAdd, Int.reduceSub, Int.reduceMul, Try.f5, kr5, ty3, ty4, ty22, ty34, tb4, h1, h2, h3, c_Awake, ne_eq]
theorem ArgueStrips_true (d : DscQ) (hd : okDscQ d) : CALL 5 [Dsc d.1 true none d.2.1 true none d.2.2] = some (B true, []) :=
  ArgueStrips_true' d.1 d.2.1 d.2.2 hd.1.2 (len_bd hd.2.1.1) (len_bd hd.2.2.1)
end Go.Proofs.Ytochkebkfoophaa.Tev
