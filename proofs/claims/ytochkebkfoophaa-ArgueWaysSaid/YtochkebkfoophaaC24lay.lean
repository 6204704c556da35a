/- The layer in which section.Twice is told. -/
import Derived.Test.YtochkebkfoophaaCTwi
import Derived.Test.YtochkebkfoophaaTevPr
import Derived.Test.YtochkebkfoophaaC24c
import Derived.Test.YtochkebkfoophaaCRef2
import Derived.Test.YtochkebkfoophaaCTwr
namespace Go.Proofs.Ytochkebkfoophaa.Tev
open Go Go.RowKit Go.Proofs Go.Proofs.Ytochkebkfoophaa.Q
set_option linter.unusedSectionVars false
set_option maxRecDepth 100000
set_option maxHeartbeats 0
set_option linter.unusedSimpArgs false
set_option linter.unusedVariables false
/-- The functions that are told later. -/
def NEW : List Nat := [25, 7, 8]
def Sp1 (f : FuncId) (xs : List T) (r : R) : Prop := f = 46 ∧ ∃ (b : Bool) (cap : Option Nat) (l : List Int), (l.length : Int) * 8 ≤ 140737488351232 ∧ xs = [SL b cap l.length (ints l)] ∧ r = (B (decide (¬ l.Nodup)), [])
theorem Sp1_ok (f : FuncId) (xs : List T) (r : R) (h : Sp1 f xs r) : CallsR E0.P f xs r := by
  obtain ⟨rfl, b, cap, l, h1, rfl, rfl⟩ := h
  exact Tw.twice_R b cap l h1
theorem Sp1_one {f : FuncId} {xs : List T} {r r' : R} (h : Sp1 f xs r) (h' : Sp1 f xs r') : r' = r := by
  obtain ⟨rfl, b, cap, l, _, rfl, rfl⟩ := h
  obtain ⟨_, b', cap', l', _, e, rfl⟩ := h'
  simp only [List.cons.injEq, and_true] at e
  rw [ints_inj (SL_inj e)]
noncomputable def pr1 : FuncId → List T → Option R := relP Sp1 (butP NEW CALL)
theorem pr1_ok : CallOK E0.P pr1 := relP_ok Sp1_ok (butP_ok (lim_sound mixed pr0_ok))
noncomputable abbrev CALL1 := (lim E0 pr1).call
theorem Sp1_not {f : FuncId} (h : f ≠ 46) (xs : List T) (r : R) : ¬ Sp1 f xs r := fun q => h q.1
theorem pr1_none {f : FuncId} (h : f ≠ 46 ∧ f ∈ NEW) (xs : List T) : pr1 f xs = none := (relP_none (Sp1_not h.1 xs)).trans (if_pos h.2)
theorem old1 {f : FuncId} {xs : List T} {r : R} (h : f ≠ 46 ∧ f ∉ NEW) (hc : CALL f xs = some r) : CALL1 f xs = some r :=
  lim_pr ((relP_none (Sp1_not h.1 xs)).trans ((if_neg h.2).trans hc))
theorem s1_Twice (b : Bool) (cap : Option Nat) (l : List Int) (h : (l.length : Int) * 8 ≤ 140737488351232) : CALL1 46 [SL b cap l.length (ints l)] = some (B (decide (¬ l.Nodup)), []) :=
  lim_pr (relP_of ⟨rfl, b, cap, l, h, rfl, rfl⟩ fun r' h' => Sp1_one ⟨rfl, b, cap, l, h, rfl, rfl⟩ h')
def shareP (p q : PassQ) : Bool := shareQ p.1.1 p.1.2.1 p.1.2.2 q.1.1 q.1.2.1 q.1.2.2
def dupP (p : PassQ) : Bool := decide (¬ (placesQ p.1.1 p.1.2.1 p.1.2.2).Nodup)
/-- The first that shares with p. -/
def firstQ (p : PassQ) : List PassQ → Nat → Option Nat
  | [], _ => none
  | q :: r, k => if shareP p q = true ∧ q.2.1 ≠ (ByteArray.mk #[118, 97, 108, 117, 101]) ∧ (p.2.2 = true ∨ q.2.2 = true) then some k else firstQ p r (k + 1)
/-- The first pair. -/
def aliasG : List PassQ → Nat → Option (Nat × Nat)
  | [], _ => none
  | p :: r, a => if p.2.1 = (ByteArray.mk #[118, 97, 108, 117, 101]) then aliasG r (a + 1) else if p.2.2 = true ∧ dupP p = true then some (a, a) else
      match firstQ p r 0 with
      | some k => some (a, a + 1 + k)
      | none => aliasG r (a + 1)
def alA (l : List PassQ) : Int := if okAll l then (match aliasG l 0 with | some x => (x.1 : Int) | none => -1) else 0
def alB (l : List PassQ) : Int := if okAll l then (match aliasG l 0 with | some x => (x.2 : Int) | none => -1) else 0
def alE (l : List PassQ) : Int := if okAll l then (match aliasG l 0 with | some _ => 94 | none => 0) else 2
/-- The box of a pass. -/
abbrev PB (p : PassQ) : Ob := .box [I p.1.1, .c (.s none p.1.2.1.length (ints p.1.2.1)), .c (.s none p.1.2.2.length (ints p.1.2.2)), .c (.v (.string p.2.1)), B p.2.2]
theorem row_drop (l : List PassQ) (a : Nat) : rowAt (l.flatMap passC) (a * 5) ((l.length - a) * 5) = (l.drop a).flatMap passC := by
  have h : ∀ (l : List PassQ) (a : Nat), (l.flatMap passC).drop (a * 5) = (l.drop a).flatMap passC := by
    intro l
    induction l with
    | nil => intro a; simp
    | cons x l ih =>
      intro a
      cases a with
      | zero => simp
      | succ a =>
        rw [List.flatMap_cons, Nat.succ_mul, List.drop_succ_cons, ← ih a]
        rw [show a * 5 + 5 = (passC x).length + a * 5 by rw [passC_len]; omega, List.drop_append]
        simp
  unfold rowAt
  rw [h, List.take_of_length_le]
  rw [flat_len passC_len, List.length_drop]
  omega
section
variable (q : Bool) (c c' : Option Nat) (l m : List PassQ)
theorem l_Alias12 (hm8 : m.length ≤ 8) (hm : ∀ p ∈ m, bdP p) (a : Nat) (ha : a ≤ 8) (p : PassQ) (hp : bdP p) : ∀ (r : List PassQ) (k : Nat), m.drop k = r →
    lp E0 pr1 25 12 ⟨[(0, PsT q c l), (6, I a), (7, .pt 0 0), (19, PsT q c l), (20, I l.length), (21, I a), (46, PsT q c' m), (47, I m.length), (48, I k)], [(0, PB p)], 1⟩ =
      match firstQ p r k with
      | some j => some (.ret, ⟨[(2, I a), (3, I (a + 1 + j : Nat)), (4, I 94)], [], 0⟩)
      | none => some (.exit 2, ⟨[(0, PsT q c l), (19, PsT q c l), (20, I l.length), (21, I a)], [], 0⟩) := by
  intro r
  induction r with
  | nil =>
    intro k h1
    have h5 := drop_nil h1
    have h6 : ¬ (k : Int) < m.length := by omega
    simp only [firstQ]
    rw [lp_eq lp25_12]
    simp (config := { maxSteps := 1000000 }) (disch := omega) only [push_cast, ↓reduceIte, Nat.reduceEqDiff, Nat.reduceAdd, Nat.reduceLT, Nat.reduceLeDiff, Nat.reduceBEq, Nat.reduceMul, Nat.reduceSub, Int.reduceToNat, Int.reduceEq, Int.reduceLT, Int.reduceLE, Int.reduceNeg, Int.reduceAdd, Int.reduceSub, Int.reduceMul, Try.f25, kr25, kp25_12, kp25_5, ow25_12, ow25_5, ty3, ty4, ty9, ty22, ty23, ty27, ty34, ty36, tb4, h6]
  | cons x r ih =>
    intro k h1
    obtain ⟨g1, g2, g3⟩ := drop_cons h1
    have g8 : (k : Int) < m.length := by omega
    have hx := hm x (List.mem_of_getElem? g2)
    have hs := old1 (by decide) (c_Share p.1.1 true true none none p.1.2.1 p.1.2.2 x.1.1 true true none none x.1.2.1 x.1.2.2 hp.2.1 hp.2.2 hx.2.1 hx.2.2)
    rw [show shareQ p.1.1 p.1.2.1 p.1.2.2 x.1.1 x.1.2.1 x.1.2.2 = shareP p x from rfl] at hs
    have ih' := ih (k + 1) g3
    simp only [cast1, List.length_append, List.length_cons, List.length_nil, Nat.zero_add, Nat.add_zero, Int.natCast_zero, Int.natCast_add, Int.zero_add, ints_1, ints_0, ] at ih'
    simp only [firstQ]
    rw [lp_eq lp25_12]
    cases h2 : shareP p x with
    | false =>
      rw [h2] at hs
      simp (config := { maxSteps := 1000000 }) (disch := omega) only [push_cast, ↓reduceIte, Nat.reduceEqDiff, Nat.reduceAdd, Nat.reduceLT, Nat.reduceLeDiff, Nat.reduceBEq, Nat.reduceMul, Nat.reduceSub, Int.reduceToNat, Int.reduceEq, Int.reduceLT, Int.reduceLE, Int.reduceNeg, Int.reduceAdd, Int.reduceSub, Int.reduceMul, Try.f25, kr25, kp25_12, kp25_5, ow25_12, ow25_5, ty3, ty4, ty9, ty22, ty23, ty27, ty34, ty36, tb4, g1, g8, ps0 g2, ps1 g2, ps2 g2, ps3 g2, ps4 g2, hs, ih']
    | true =>
      rw [h2] at hs
      by_cases h3 : x.2.1 = (ByteArray.mk #[118, 97, 108, 117, 101])
      · simp (config := { maxSteps := 1000000 }) (disch := omega) only [push_cast, ↓reduceIte, Nat.reduceEqDiff, Nat.reduceAdd, Nat.reduceLT, Nat.reduceLeDiff, Nat.reduceBEq, Nat.reduceMul, Nat.reduceSub, Int.reduceToNat, Int.reduceEq, Int.reduceLT, Int.reduceLE, Int.reduceNeg, Int.reduceAdd, Int.reduceSub, Int.reduceMul, Try.f25, kr25, kp25_12, kp25_5, ow25_12, ow25_5, ty3, ty4, ty9, ty22, ty23, ty27, ty34, ty36, tb4, g1, g8, ps0 g2, ps1 g2, ps2 g2, ps3 g2, ps4 g2, hs, ih', h3, ne_eq]
      · cases h4 : p.2.2 with
        | true => simp (config := { maxSteps := 1000000 }) (disch := omega) only [push_cast, ↓reduceIte, Nat.reduceEqDiff, Nat.reduceAdd, Nat.reduceLT, Nat.reduceLeDiff, Nat.reduceBEq, Nat.reduceMul, Nat.reduceSub, Int.reduceToNat, Int.reduceEq, Int.reduceLT, Int.reduceLE, Int.reduceNeg, Int.reduceAdd, Int.reduceSub, Int.reduceMul, Try.f25, kr25, kp25_12, kp25_5, ow25_12, ow25_5, ty3, ty4, ty9, ty22, ty23, ty27, ty34, ty36, tb4, g1, g8, ps0 g2, ps1 g2, ps2 g2, ps3 g2, ps4 g2, hs, ih', h3, h4, ne_eq, true_or]
        | false =>
          cases h6 : x.2.2 with
          | true => simp (config := { maxSteps := 1000000 }) (disch := omega) only [push_cast, ↓reduceIte, Nat.reduceEqDiff, Nat.reduceAdd, Nat.reduceLT, Nat.reduceLeDiff, Nat.reduceBEq, Nat.reduceMul, Nat.reduceSub, Int.reduceToNat, Int.reduceEq, Int.reduceLT, Int.reduceLE, Int.reduceNeg, Int.reduceAdd, Int.reduceSub, Int.reduceMul, Try.f25, kr25, kp25_12, kp25_5, ow25_12, ow25_5, ty3, ty4, ty9, ty22, ty23, ty27, ty34, ty36, tb4, g1, g8, ps0 g2, ps1 g2, ps2 g2, ps3 g2, ps4 g2, hs, ih', h3, h4, h6, ne_eq, or_true]
          | false =>
            simp only [PB, h4] at ih'
            simp (config := { maxSteps := 1000000 }) (disch := omega) only [push_cast, ↓reduceIte, Nat.reduceEqDiff, Nat.reduceAdd, Nat.reduceLT, Nat.reduceLeDiff, Nat.reduceBEq, Nat.reduceMul, Nat.reduceSub, Int.reduceToNat, Int.reduceEq, Int.reduceLT, Int.reduceLE, Int.reduceNeg, Int.reduceAdd, Int.reduceSub, Int.reduceMul, Try.f25, kr25, kp25_12, kp25_5, ow25_12, ow25_5, ty3, ty4, ty9, ty22, ty23, ty27, ty34, ty36, tb4, g1, g8, ps0 g2, ps1 g2, ps2 g2, ps3 g2, ps4 g2, hs, ih', h3, h4, h6, ne_eq, or_self, or_false, false_or, Bool.true_eq_false]
theorem l_Alias5 (hl8 : l.length ≤ 8) (hb : ∀ p ∈ l, bdP p) : ∀ (r : List PassQ) (i : Nat), l.drop i = r →
    lp E0 pr1 25 5 ⟨[(0, PsT q none l), (19, PsT q none l), (20, I l.length), (21, I i)], [], 0⟩ =
      match aliasG r i with
      | some x => some (.ret, ⟨[(2, I x.1), (3, I x.2), (4, I 94)], [], 0⟩)
      | none => some (.exit 0, ⟨[], [], 0⟩) := by
  intro r
  induction r with
  | nil =>
    intro i h1
    have h5 := drop_nil h1
    have h6 : ¬ (i : Int) < l.length := by omega
    simp only [aliasG]
    rw [lp_eq lp25_5]
    simp (config := { maxSteps := 1000000 }) (disch := omega) only [push_cast, ↓reduceIte, Nat.reduceEqDiff, Nat.reduceAdd, Nat.reduceLT, Nat.reduceLeDiff, Nat.reduceBEq, Nat.reduceMul, Nat.reduceSub, Int.reduceToNat, Int.reduceEq, Int.reduceLT, Int.reduceLE, Int.reduceNeg, Int.reduceAdd, Int.reduceSub, Int.reduceMul, Try.f25, kr25, kp25_12, kp25_5, ow25_12, ow25_5, ty3, ty4, ty9, ty22, ty23, ty27, ty34, ty36, tb4, h6]
  | cons p r ih =>
    intro i h1
    obtain ⟨g1, g2, g3⟩ := drop_cons h1
    have g8 : (i : Int) < l.length := by omega
    have hp := hb p (List.mem_of_getElem? g2)
    have hpl := fun b c b' c' => old1 (by decide) (c_Places p.1.1 b b' c c' p.1.2.1 p.1.2.2 hp.2.1 hp.2.2)
    have n1 := placesQ_len p.1.1 p.1.2.1 p.1.2.2
    have htw := fun b c => s1_Twice b c (placesQ p.1.1 p.1.2.1 p.1.2.2) (by omega)
    rw [show decide (¬ (placesQ p.1.1 p.1.2.1 p.1.2.2).Nodup) = dupP p from rfl] at htw
    have ih' := ih (i + 1) g3
    have hl := l_Alias12 q none none l (l.drop (i + 1)) (by rw [List.length_drop]; omega) (fun x hx => hb x (List.mem_of_mem_drop hx)) i (by omega) p hp r 0 (by rw [g3]; rfl)
    have rd := row_drop l (i + 1)
    have e1 : ((l.length - (i + 1) : Nat) : Int) = (l.length : Int) - ((i : Int) + 1) := by omega
    simp only [PsT] at hl
    rw [List.length_drop, e1] at hl
    have f1 : 0 ≤ (i : Int) + 1 := by omega
    have f2 : (i : Int) + 1 ≤ l.length := by omega
    have f3 : ((i : Int) + 1).toNat = i + 1 := by omega
    simp only [cast1, List.length_append, List.length_cons, List.length_nil, Nat.zero_add, Nat.add_zero, Int.natCast_zero, Int.natCast_add, Int.zero_add, ints_1, ints_0, ] at ih' hl
    simp only [aliasG]
    rw [lp_eq lp25_5]
    by_cases hv : p.2.1 = (ByteArray.mk #[118, 97, 108, 117, 101])
    · simp (config := { maxSteps := 1000000 }) (disch := omega) only [push_cast, ↓reduceIte, Nat.reduceEqDiff, Nat.reduceAdd, Nat.reduceLT, Nat.reduceLeDiff, Nat.reduceBEq, Nat.reduceMul, Nat.reduceSub, Int.reduceToNat, Int.reduceEq, Int.reduceLT, Int.reduceLE, Int.reduceNeg, Int.reduceAdd, Int.reduceSub, Int.reduceMul, Try.f25, kr25, kp25_12, kp25_5, ow25_12, ow25_5, ty3, ty4, ty9, ty22, ty23, ty27, ty34, ty36, tb4, g1, g8, ps0 g2, ps1 g2, ps2 g2, ps3 g2, ps4 g2, hv, ih']
    · cases hc : p.2.2 with
      | true =>
        simp only [PB, hc] at hl
        cases hd : dupP p with
        | true =>
          rw [hd] at htw
          simp (config := { maxSteps := 1000000 }) (disch := omega) only [push_cast, ↓reduceIte, Nat.reduceEqDiff, Nat.reduceAdd, Nat.reduceLT, Nat.reduceLeDiff, Nat.reduceBEq, Nat.reduceMul, Nat.reduceSub, Int.reduceToNat, Int.reduceEq, Int.reduceLT, Int.reduceLE, Int.reduceNeg, Int.reduceAdd, Int.reduceSub, Int.reduceMul, Try.f25, kr25, kp25_12, kp25_5, ow25_12, ow25_5, ty3, ty4, ty9, ty22, ty23, ty27, ty34, ty36, tb4, g1, g8, ps0 g2, ps1 g2, ps2 g2, ps3 g2, ps4 g2, hv, hc, hpl, htw]
        | false =>
          rw [hd] at htw
          cases hf : firstQ p r 0 with
          | some k =>
            rw [hf] at hl
            simp (config := { maxSteps := 1000000 }) (disch := omega) only [push_cast, ↓reduceIte, Nat.reduceEqDiff, Nat.reduceAdd, Nat.reduceLT, Nat.reduceLeDiff, Nat.reduceBEq, Nat.reduceMul, Nat.reduceSub, Int.reduceToNat, Int.reduceEq, Int.reduceLT, Int.reduceLE, Int.reduceNeg, Int.reduceAdd, Int.reduceSub, Int.reduceMul, Try.f25, kr25, kp25_12, kp25_5, ow25_12, ow25_5, ty3, ty4, ty9, ty22, ty23, ty27, ty34, ty36, tb4, g1, g8, ps0 g2, ps1 g2, ps2 g2, ps3 g2, ps4 g2, hv, hc, hpl, htw, f1, f2, f3, and_self, rd, hl]
          | none =>
            rw [hf] at hl
            simp (config := { maxSteps := 1000000 }) (disch := omega) only [push_cast, ↓reduceIte, Nat.reduceEqDiff, Nat.reduceAdd, Nat.reduceLT, Nat.reduceLeDiff, Nat.reduceBEq, Nat.reduceMul, Nat.reduceSub, Int.reduceToNat, Int.reduceEq, Int.reduceLT, Int.reduceLE, Int.reduceNeg, Int.reduceAdd, Int.reduceSub, Int.reduceMul, Try.f25, kr25, kp25_12, kp25_5, ow25_12, ow25_5, ty3, ty4, ty9, ty22, ty23, ty27, ty34, ty36, tb4, g1, g8, ps0 g2, ps1 g2, ps2 g2, ps3 g2, ps4 g2, hv, hc, hpl, htw, f1, f2, f3, and_self, rd, hl, ih']
      | false =>
        simp only [PB, hc] at hl
        cases hf : firstQ p r 0 with
        | some k =>
          rw [hf] at hl
          simp (config := { maxSteps := 1000000 }) (disch := omega) only [push_cast, ↓reduceIte, Nat.reduceEqDiff, Nat.reduceAdd, Nat.reduceLT, Nat.reduceLeDiff, Nat.reduceBEq, Nat.reduceMul, Nat.reduceSub, Int.reduceToNat, Int.reduceEq, Int.reduceLT, Int.reduceLE, Int.reduceNeg, Int.reduceAdd, Int.reduceSub, Int.reduceMul, Try.f25, kr25, kp25_12, kp25_5, ow25_12, ow25_5, ty3, ty4, ty9, ty22, ty23, ty27, ty34, ty36, tb4, g1, g8, ps0 g2, ps1 g2, ps2 g2, ps3 g2, ps4 g2, hv, hc, hpl, f1, f2, f3, and_self, rd, hl]
        | none =>
          rw [hf] at hl
          simp (config := { maxSteps := 1000000 }) (disch := omega) only [push_cast, ↓reduceIte, Nat.reduceEqDiff, Nat.reduceAdd, Nat.reduceLT, Nat.reduceLeDiff, Nat.reduceBEq, Nat.reduceMul, Nat.reduceSub, Int.reduceToNat, Int.reduceEq, Int.reduceLT, Int.reduceLE, Int.reduceNeg, Int.reduceAdd, Int.reduceSub, Int.reduceMul, Try.f25, kr25, kp25_12, kp25_5, ow25_12, ow25_5, ty3, ty4, ty9, ty22, ty23, ty27, ty34, ty36, tb4, g1, g8, ps0 g2, ps1 g2, ps2 g2, ps3 g2, ps4 g2, hv, hc, hpl, f1, f2, f3, and_self, rd, hl, ih']
theorem c_Alias (hb : ∀ p ∈ l, bdP p) (hl : (l.length : Int) ≤ 9223372036854775806) : CALL1 25 [PsT q none l] = some (.tup [I (alA l), I (alB l), I (alE l)], []) := by
  have hv := old1 (by decide) (c_valid q none l hb)
  unfold alA alB alE
  refine lim_run (fn := Try.f25) fn25 (pr1_none (by decide) _) body25 (Nat.le_of_ble_eq_true rfl) ok25 ?_
  by_cases h : okAll l
  · have hk := l_Alias5 q l (by have := h.1; omega) hb l 0 rfl
    simp only [cast1, List.length_append, List.length_cons, List.length_nil, Nat.zero_add, Nat.add_zero, Int.natCast_zero, Int.natCast_add, Int.zero_add, ints_1, ints_0, ] at hk
    cases ha : aliasG l 0 with
    | some x =>
      rw [ha] at hk
      simp (config := { maxSteps := 1000000 }) (disch := omega) only [push_cast, ↓reduceIte, Nat.reduceEqDiff, Nat.reduceAdd, Nat.reduceLT, Nat.reduceLeDiff, Nat.reduceBEq, Nat.reduceMul, Nat.reduceSub, Int.reduceToNat, Int.reduceEq, Int.reduceLT, Int.reduceLE, Int.reduceNeg, Int.reduceAdd, Int.reduceSub, Int.reduceMul, Try.f25, kr25, kp25_12, kp25_5, ow25_12, ow25_5, ty3, ty4, ty9, ty22, ty23, ty27, ty34, ty36, tb4, hv, h, hk, ne_eq]
    | none =>
      rw [ha] at hk
      simp (config := { maxSteps := 1000000 }) (disch := omega) only [push_cast, ↓reduceIte, Nat.reduceEqDiff, Nat.reduceAdd, Nat.reduceLT, Nat.reduceLeDiff, Nat.reduceBEq, Nat.reduceMul, Nat.reduceSub, Int.reduceToNat, Int.reduceEq, Int.reduceLT, Int.reduceLE, Int.reduceNeg, Int.reduceAdd, Int.reduceSub, Int.reduceMul, Try.f25, kr25, kp25_12, kp25_5, ow25_12, ow25_5, ty3, ty4, ty9, ty22, ty23, ty27, ty34, ty36, tb4, hv, h, hk, ne_eq]
  · simp (config := { maxSteps := 1000000 }) (disch := omega) only [push_cast, ↓reduceIte, Nat.reduceEqDiff, Nat.reduceAdd, Nat.reduceLT, Nat.reduceLeDiff, Nat.reduceBEq, Nat.reduceMul, Nat.reduceSub, Int.reduceToNat, Int.reduceEq, Int.reduceLT, Int.reduceLE, Int.reduceNeg, Int.reduceAdd, Int.reduceSub, Int.reduceMul, Try.f25, kr25, kp25_12, kp25_5, ow25_12, ow25_5, ty3, ty4, ty9, ty22, ty23, ty27, ty34, ty36, tb4, hv, h, ne_eq]
/-- The document's row of pairs. -/
def docF (p : PassQ) (a : Nat) : List PassQ → Nat → Option Nat
  | [], _ => none
  | x :: r, b => if p.2.1 = (ByteArray.mk #[118, 97, 108, 117, 101]) ∨ x.2.1 = (ByteArray.mk #[118, 97, 108, 117, 101]) ∨ (p.2.2 = false ∧ x.2.2 = false) then docF p a r (b + 1)
      else if (if a = b then dupP p else shareP p x) = true then some b else docF p a r (b + 1)
def docG (l : List PassQ) : List PassQ → Nat → Option (Nat × Nat)
  | [], _ => none
  | p :: r, a => match docF p a (p :: r) a with
    | some b => some (a, b)
    | none => docG l r (a + 1)
theorem docF_val (p : PassQ) (hv : p.2.1 = (ByteArray.mk #[118, 97, 108, 117, 101])) (a : Nat) : ∀ (r : List PassQ) (b : Nat), docF p a r b = none
  | [], b => rfl
  | x :: r, b => by rw [docF, if_pos (.inl hv), docF_val p hv a r]
theorem docF_first (p : PassQ) (hv : ¬ p.2.1 = (ByteArray.mk #[118, 97, 108, 117, 101])) (a : Nat) : ∀ (r : List PassQ) (k : Nat), docF p a r (a + 1 + k) = (firstQ p r k).map (a + 1 + ·)
  | [], k => rfl
  | x :: r, k => by
    have ih := docF_first p hv a r (k + 1)
    rw [show a + 1 + (k + 1) = a + 1 + k + 1 by omega] at ih
    rw [docF, firstQ, ih, if_neg (show ¬ a = a + 1 + k by omega)]
    by_cases hx : x.2.1 = (ByteArray.mk #[118, 97, 108, 117, 101])
    · rw [if_pos (.inr (.inl hx)), if_neg (fun h => h.2.1 hx)]
    · cases h1 : p.2.2 <;> cases h2 : x.2.2 <;> cases h3 : shareP p x <;> simp [hv, hx]
theorem docG_alias (l : List PassQ) : ∀ (r : List PassQ) (a : Nat), docG l r a = aliasG r a
  | [], a => rfl
  | p :: r, a => by
    rw [docG, aliasG, docG_alias l r (a + 1)]
    by_cases hv : p.2.1 = (ByteArray.mk #[118, 97, 108, 117, 101])
    · rw [docF_val p hv, if_pos hv]
    · rw [if_neg hv, docF]
      have hf := docF_first p hv a r 0
      rw [Nat.add_zero] at hf
      rw [hf, if_pos rfl]
      cases h1 : p.2.2 with
      | false =>
        simp only [hv, false_or, and_self, or_true, if_true, Bool.false_eq_true, false_and, if_false]
        cases firstQ p r 0 <;> rfl
      | true =>
        simp only [hv, false_or, Bool.true_eq_false, false_and, or_false, if_false, true_and]
        cases h2 : dupP p with
        | true => simp
        | false =>
          simp only [Bool.false_eq_true, if_false]
          cases firstQ p r 0 <;> rfl
theorem rl_Alias7 (hl8 : l.length ≤ 8) (hb : ∀ p ∈ l, bdP p) (a : Nat) (p : PassQ) (hp : l[a]? = some p) : ∀ (r : List PassQ) (k : Nat), l.drop k = r →
    lp E0 pr0 26 7 ⟨[(0, PsT q c l), (5, I a), (6, I k)], [], 0⟩ =
      match docF p a r k with
      | some j => some (.ret, ⟨[(2, I a), (3, I j), (4, I 94)], [], 0⟩)
      | none => some (.exit 2, ⟨[(0, PsT q c l), (5, I a)], [], 0⟩) := by
  have a8 : a < l.length := by rcases Nat.lt_or_ge a l.length with h' | h'; exact h'; simp [h'] at hp
  have a9 : (a : Int) < l.length := by omega
  have hpb := hb p (List.mem_of_getElem? hp)
  have hpl := fun b c b' c' => r_Places p.1.1 b b' c c' p.1.2.1 p.1.2.2 hpb.1
  have n1 := placesQ_len p.1.1 p.1.2.1 p.1.2.2
  have htw := fun b c => r_Twice b c (placesQ p.1.1 p.1.2.1 p.1.2.2) (by omega)
  rw [show decide (¬ (placesQ p.1.1 p.1.2.1 p.1.2.2).Nodup) = dupP p from rfl] at htw
  intro r
  induction r with
  | nil =>
    intro k h1
    have h5 := drop_nil h1
    have h6 : ¬ (k : Int) < l.length := by omega
    simp only [docF]
    rw [lp_eq lp26_7]
    simp (config := { maxSteps := 1000000 }) (disch := omega) only [push_cast, ↓reduceIte, Nat.reduceEqDiff, Nat.reduceAdd, Nat.reduceLT, Nat.reduceLeDiff, Nat.reduceBEq, Nat.reduceMul, Nat.reduceSub, Int.reduceToNat, Int.reduceEq, Int.reduceLT, Int.reduceLE, Int.reduceNeg, Int.reduceAdd, Int.reduceSub, Int.reduceMul, Try.f26, kr26, kp26_7, kp26_4, ow26_7, ow26_4, ty3, ty4, ty9, ty22, ty23, ty27, ty34, ty36, tb4, h6]
  | cons x r ih =>
    intro k h1
    obtain ⟨g1, g2, g3⟩ := drop_cons h1
    have g8 : (k : Int) < l.length := by omega
    have hx := hb x (List.mem_of_getElem? g2)
    have hs := r_Share p.1.1 true true none none p.1.2.1 p.1.2.2 x.1.1 true true none none x.1.2.1 x.1.2.2 hpb.1 hx.1
    rw [show shareQ p.1.1 p.1.2.1 p.1.2.2 x.1.1 x.1.2.1 x.1.2.2 = shareP p x from rfl] at hs
    have ih' := ih (k + 1) g3
    simp only [cast1, List.length_append, List.length_cons, List.length_nil, Nat.zero_add, Nat.add_zero, Int.natCast_zero, Int.natCast_add, Int.zero_add, ints_1, ints_0, ] at ih'
    simp only [docF]
    have hak : ((a : Int) = k) = (a = k) := propext Int.ofNat_inj
    rw [lp_eq lp26_7]
    by_cases hv : p.2.1 = (ByteArray.mk #[118, 97, 108, 117, 101])
    · simp (config := { maxSteps := 1000000 }) (disch := omega) only [push_cast, ↓reduceIte, Nat.reduceEqDiff, Nat.reduceAdd, Nat.reduceLT, Nat.reduceLeDiff, Nat.reduceBEq, Nat.reduceMul, Nat.reduceSub, Int.reduceToNat, Int.reduceEq, Int.reduceLT, Int.reduceLE, Int.reduceNeg, Int.reduceAdd, Int.reduceSub, Int.reduceMul, Try.f26, kr26, kp26_7, kp26_4, ow26_7, ow26_4, ty3, ty4, ty9, ty22, ty23, ty27, ty34, ty36, tb4, a8, a9, g1, g8, ps3 hp, hv, ih', true_or]
    · by_cases hw : x.2.1 = (ByteArray.mk #[118, 97, 108, 117, 101])
      · simp (config := { maxSteps := 1000000 }) (disch := omega) only [push_cast, ↓reduceIte, Nat.reduceEqDiff, Nat.reduceAdd, Nat.reduceLT, Nat.reduceLeDiff, Nat.reduceBEq, Nat.reduceMul, Nat.reduceSub, Int.reduceToNat, Int.reduceEq, Int.reduceLT, Int.reduceLE, Int.reduceNeg, Int.reduceAdd, Int.reduceSub, Int.reduceMul, Try.f26, kr26, kp26_7, kp26_4, ow26_7, ow26_4, ty3, ty4, ty9, ty22, ty23, ty27, ty34, ty36, tb4, a8, a9, g1, g8, ps3 hp, ps3 g2, hv, hw, ih', or_true, true_or]
      · by_cases hc : p.2.2 = false ∧ x.2.2 = false
        · simp (config := { maxSteps := 1000000 }) (disch := omega) only [push_cast, ↓reduceIte, Nat.reduceEqDiff, Nat.reduceAdd, Nat.reduceLT, Nat.reduceLeDiff, Nat.reduceBEq, Nat.reduceMul, Nat.reduceSub, Int.reduceToNat, Int.reduceEq, Int.reduceLT, Int.reduceLE, Int.reduceNeg, Int.reduceAdd, Int.reduceSub, Int.reduceMul, Try.f26, kr26, kp26_7, kp26_4, ow26_7, ow26_4, ty3, ty4, ty9, ty22, ty23, ty27, ty34, ty36, tb4, a8, a9, g1, g8, ps3 hp, ps3 g2, ps4 hp, ps4 g2, hv, hw, hc.1, hc.2, ih', or_true]
        · have hc' : (p.2.2 = false ∧ x.2.2 = false) = False := eq_false hc
          have hcs : (p.2.2 = true) ∨ (p.2.2 = false ∧ x.2.2 = true) := by
            cases h1 : p.2.2 <;> cases h2 : x.2.2 <;> simp_all
          by_cases he : a = k
          · cases hd : dupP p with
            | true =>
              rw [hd] at htw
              rcases hcs with h1 | ⟨h1, h2⟩
              · simp (config := { maxSteps := 1000000 }) (disch := omega) only [push_cast, ↓reduceIte, Nat.reduceEqDiff, Nat.reduceAdd, Nat.reduceLT, Nat.reduceLeDiff, Nat.reduceBEq, Nat.reduceMul, Nat.reduceSub, Int.reduceToNat, Int.reduceEq, Int.reduceLT, Int.reduceLE, Int.reduceNeg, Int.reduceAdd, Int.reduceSub, Int.reduceMul, Try.f26, kr26, kp26_7, kp26_4, ow26_7, ow26_4, ty3, ty4, ty9, ty22, ty23, ty27, ty34, ty36, tb4, a8, a9, g1, g8, ps0 hp, ps1 hp, ps2 hp, ps0 g2, ps1 g2, ps2 g2, ps3 hp, ps3 g2, ps4 hp, ps4 g2, hv, hw, h1, hak, eq_true he, hs, hpl, htw, or_self, or_false, false_or, Bool.true_eq_false]
              · simp (config := { maxSteps := 1000000 }) (disch := omega) only [push_cast, ↓reduceIte, Nat.reduceEqDiff, Nat.reduceAdd, Nat.reduceLT, Nat.reduceLeDiff, Nat.reduceBEq, Nat.reduceMul, Nat.reduceSub, Int.reduceToNat, Int.reduceEq, Int.reduceLT, Int.reduceLE, Int.reduceNeg, Int.reduceAdd, Int.reduceSub, Int.reduceMul, Try.f26, kr26, kp26_7, kp26_4, ow26_7, ow26_4, ty3, ty4, ty9, ty22, ty23, ty27, ty34, ty36, tb4, a8, a9, g1, g8, ps0 hp, ps1 hp, ps2 hp, ps0 g2, ps1 g2, ps2 g2, ps3 hp, ps3 g2, ps4 hp, ps4 g2, hv, hw, h1, h2, hak, eq_true he, hs, hpl, htw, or_self, or_false, false_or, Bool.true_eq_false]
            | false =>
              rw [hd] at htw
              rcases hcs with h1 | ⟨h1, h2⟩
              · simp (config := { maxSteps := 1000000 }) (disch := omega) only [push_cast, ↓reduceIte, Nat.reduceEqDiff, Nat.reduceAdd, Nat.reduceLT, Nat.reduceLeDiff, Nat.reduceBEq, Nat.reduceMul, Nat.reduceSub, Int.reduceToNat, Int.reduceEq, Int.reduceLT, Int.reduceLE, Int.reduceNeg, Int.reduceAdd, Int.reduceSub, Int.reduceMul, Try.f26, kr26, kp26_7, kp26_4, ow26_7, ow26_4, ty3, ty4, ty9, ty22, ty23, ty27, ty34, ty36, tb4, a8, a9, g1, g8, ps0 hp, ps1 hp, ps2 hp, ps0 g2, ps1 g2, ps2 g2, ps3 hp, ps3 g2, ps4 hp, ps4 g2, hv, hw, h1, hak, eq_true he, hs, hpl, htw, ih', or_self, or_false, false_or, Bool.true_eq_false]
              · simp (config := { maxSteps := 1000000 }) (disch := omega) only [push_cast, ↓reduceIte, Nat.reduceEqDiff, Nat.reduceAdd, Nat.reduceLT, Nat.reduceLeDiff, Nat.reduceBEq, Nat.reduceMul, Nat.reduceSub, Int.reduceToNat, Int.reduceEq, Int.reduceLT, Int.reduceLE, Int.reduceNeg, Int.reduceAdd, Int.reduceSub, Int.reduceMul, Try.f26, kr26, kp26_7, kp26_4, ow26_7, ow26_4, ty3, ty4, ty9, ty22, ty23, ty27, ty34, ty36, tb4, a8, a9, g1, g8, ps0 hp, ps1 hp, ps2 hp, ps0 g2, ps1 g2, ps2 g2, ps3 hp, ps3 g2, ps4 hp, ps4 g2, hv, hw, h1, h2, hak, eq_true he, hs, hpl, htw, ih', or_self, or_false, false_or, Bool.true_eq_false]
          · cases hd : shareP p x with
            | true =>
              rw [hd] at hs
              rcases hcs with h1 | ⟨h1, h2⟩
              · simp (config := { maxSteps := 1000000 }) (disch := omega) only [push_cast, ↓reduceIte, Nat.reduceEqDiff, Nat.reduceAdd, Nat.reduceLT, Nat.reduceLeDiff, Nat.reduceBEq, Nat.reduceMul, Nat.reduceSub, Int.reduceToNat, Int.reduceEq, Int.reduceLT, Int.reduceLE, Int.reduceNeg, Int.reduceAdd, Int.reduceSub, Int.reduceMul, Try.f26, kr26, kp26_7, kp26_4, ow26_7, ow26_4, ty3, ty4, ty9, ty22, ty23, ty27, ty34, ty36, tb4, a8, a9, g1, g8, ps0 hp, ps1 hp, ps2 hp, ps0 g2, ps1 g2, ps2 g2, ps3 hp, ps3 g2, ps4 hp, ps4 g2, hv, hw, h1, hak, eq_false he, hs, hpl, or_self, or_false, false_or, Bool.true_eq_false]
              · simp (config := { maxSteps := 1000000 }) (disch := omega) only [push_cast, ↓reduceIte, Nat.reduceEqDiff, Nat.reduceAdd, Nat.reduceLT, Nat.reduceLeDiff, Nat.reduceBEq, Nat.reduceMul, Nat.reduceSub, Int.reduceToNat, Int.reduceEq, Int.reduceLT, Int.reduceLE, Int.reduceNeg, Int.reduceAdd, Int.reduceSub, Int.reduceMul, Try.f26, kr26, kp26_7, kp26_4, ow26_7, ow26_4, ty3, ty4, ty9, ty22, ty23, ty27, ty34, ty36, tb4, a8, a9, g1, g8, ps0 hp, ps1 hp, ps2 hp, ps0 g2, ps1 g2, ps2 g2, ps3 hp, ps3 g2, ps4 hp, ps4 g2, hv, hw, h1, h2, hak, eq_false he, hs, hpl, or_self, or_false, false_or, Bool.true_eq_false]
            | false =>
              rw [hd] at hs
              rcases hcs with h1 | ⟨h1, h2⟩
              · simp (config := { maxSteps := 1000000 }) (disch := omega) only [push_cast, ↓reduceIte, Nat.reduceEqDiff, Nat.reduceAdd, Nat.reduceLT, Nat.reduceLeDiff, Nat.reduceBEq, Nat.reduceMul, Nat.reduceSub, Int.reduceToNat, Int.reduceEq, Int.reduceLT, Int.reduceLE, Int.reduceNeg, Int.reduceAdd, Int.reduceSub, Int.reduceMul, Try.f26, kr26, kp26_7, kp26_4, ow26_7, ow26_4, ty3, ty4, ty9, ty22, ty23, ty27, ty34, ty36, tb4, a8, a9, g1, g8, ps0 hp, ps1 hp, ps2 hp, ps0 g2, ps1 g2, ps2 g2, ps3 hp, ps3 g2, ps4 hp, ps4 g2, hv, hw, h1, hak, eq_false he, hs, hpl, ih', or_self, or_false, false_or, Bool.true_eq_false]
              · simp (config := { maxSteps := 1000000 }) (disch := omega) only [push_cast, ↓reduceIte, Nat.reduceEqDiff, Nat.reduceAdd, Nat.reduceLT, Nat.reduceLeDiff, Nat.reduceBEq, Nat.reduceMul, Nat.reduceSub, Int.reduceToNat, Int.reduceEq, Int.reduceLT, Int.reduceLE, Int.reduceNeg, Int.reduceAdd, Int.reduceSub, Int.reduceMul, Try.f26, kr26, kp26_7, kp26_4, ow26_7, ow26_4, ty3, ty4, ty9, ty22, ty23, ty27, ty34, ty36, tb4, a8, a9, g1, g8, ps0 hp, ps1 hp, ps2 hp, ps0 g2, ps1 g2, ps2 g2, ps3 hp, ps3 g2, ps4 hp, ps4 g2, hv, hw, h1, h2, hak, eq_false he, hs, hpl, ih', or_self, or_false, false_or, Bool.true_eq_false]
theorem rl_Alias4 (hl8 : l.length ≤ 8) (hb : ∀ p ∈ l, bdP p) : ∀ (r : List PassQ) (i : Nat), l.drop i = r →
    lp E0 pr0 26 4 ⟨[(0, PsT q c l), (5, I i)], [], 0⟩ =
      match docG l r i with
      | some x => some (.ret, ⟨[(2, I x.1), (3, I x.2), (4, I 94)], [], 0⟩)
      | none => some (.exit 0, ⟨[], [], 0⟩) := by
  intro r
  induction r with
  | nil =>
    intro i h1
    have h5 := drop_nil h1
    have h6 : ¬ (i : Int) < l.length := by omega
    simp only [docG]
    rw [lp_eq lp26_4]
    simp (config := { maxSteps := 1000000 }) (disch := omega) only [push_cast, ↓reduceIte, Nat.reduceEqDiff, Nat.reduceAdd, Nat.reduceLT, Nat.reduceLeDiff, Nat.reduceBEq, Nat.reduceMul, Nat.reduceSub, Int.reduceToNat, Int.reduceEq, Int.reduceLT, Int.reduceLE, Int.reduceNeg, Int.reduceAdd, Int.reduceSub, Int.reduceMul, Try.f26, kr26, kp26_7, kp26_4, ow26_7, ow26_4, ty3, ty4, ty9, ty22, ty23, ty27, ty34, ty36, tb4, h6]
  | cons p r ih =>
    intro i h1
    obtain ⟨g1, g2, g3⟩ := drop_cons h1
    have g8 : (i : Int) < l.length := by omega
    have hl := rl_Alias7 q c l hl8 hb i p g2 (p :: r) i h1
    have ih' := ih (i + 1) g3
    simp only [cast1, List.length_append, List.length_cons, List.length_nil, Nat.zero_add, Nat.add_zero, Int.natCast_zero, Int.natCast_add, Int.zero_add, ints_1, ints_0, ] at ih' hl
    simp only [docG]
    rw [lp_eq lp26_4]
    cases hf : docF p i (p :: r) i with
    | some k =>
      rw [hf] at hl
      simp (config := { maxSteps := 1000000 }) (disch := omega) only [push_cast, ↓reduceIte, Nat.reduceEqDiff, Nat.reduceAdd, Nat.reduceLT, Nat.reduceLeDiff, Nat.reduceBEq, Nat.reduceMul, Nat.reduceSub, Int.reduceToNat, Int.reduceEq, Int.reduceLT, Int.reduceLE, Int.reduceNeg, Int.reduceAdd, Int.reduceSub, Int.reduceMul, Try.f26, kr26, kp26_7, kp26_4, ow26_7, ow26_4, ty3, ty4, ty9, ty22, ty23, ty27, ty34, ty36, tb4, g1, g8, hl]
    | none =>
      rw [hf] at hl
      simp (config := { maxSteps := 1000000 }) (disch := omega) only [push_cast, ↓reduceIte, Nat.reduceEqDiff, Nat.reduceAdd, Nat.reduceLT, Nat.reduceLeDiff, Nat.reduceBEq, Nat.reduceMul, Nat.reduceSub, Int.reduceToNat, Int.reduceEq, Int.reduceLT, Int.reduceLE, Int.reduceNeg, Int.reduceAdd, Int.reduceSub, Int.reduceMul, Try.f26, kr26, kp26_7, kp26_4, ow26_7, ow26_4, ty3, ty4, ty9, ty22, ty23, ty27, ty34, ty36, tb4, g1, g8, hl, ih']
theorem r_Alias (hb : ∀ p ∈ l, bdP p) (hl : (l.length : Int) ≤ 9223372036854775806) : CALL 26 [PsT q c l] = some (.tup [I (alA l), I (alB l), I (alE l)], []) := by
  have hv := r_isPasses q c l hl hb
  unfold alA alB alE
  refine lim_run (fn := Try.f26) fn26 rfl body26 (Nat.le_of_ble_eq_true rfl) ok26 ?_
  by_cases h : okAll l
  · have hk := rl_Alias4 q c l (by have := h.1; omega) hb l 0 rfl
    rw [docG_alias] at hk
    simp only [cast1, List.length_append, List.length_cons, List.length_nil, Nat.zero_add, Nat.add_zero, Int.natCast_zero, Int.natCast_add, Int.zero_add, ints_1, ints_0, ] at hk
    cases ha : aliasG l 0 with
    | some x =>
      rw [ha] at hk
      simp (config := { maxSteps := 1000000 }) (disch := omega) only [push_cast, ↓reduceIte, Nat.reduceEqDiff, Nat.reduceAdd, Nat.reduceLT, Nat.reduceLeDiff, Nat.reduceBEq, Nat.reduceMul, Nat.reduceSub, Int.reduceToNat, Int.reduceEq, Int.reduceLT, Int.reduceLE, Int.reduceNeg, Int.reduceAdd, Int.reduceSub, Int.reduceMul, Try.f26, kr26, kp26_7, kp26_4, ow26_7, ow26_4, ty3, ty4, ty9, ty22, ty23, ty27, ty34, ty36, tb4, hv, h, hk]
    | none =>
      rw [ha] at hk
      simp (config := { maxSteps := 1000000 }) (disch := omega) only [push_cast, ↓reduceIte, Nat.reduceEqDiff, Nat.reduceAdd, Nat.reduceLT, Nat.reduceLeDiff, Nat.reduceBEq, Nat.reduceMul, Nat.reduceSub, Int.reduceToNat, Int.reduceEq, Int.reduceLT, Int.reduceLE, Int.reduceNeg, Int.reduceAdd, Int.reduceSub, Int.reduceMul, Try.f26, kr26, kp26_7, kp26_4, ow26_7, ow26_4, ty3, ty4, ty9, ty22, ty23, ty27, ty34, ty36, tb4, hv, h, hk]
  · simp (config := { maxSteps := 1000000 }) (disch := omega) only [push_cast, ↓reduceIte, Nat.reduceEqDiff, Nat.reduceAdd, Nat.reduceLT, Nat.reduceLeDiff, Nat.reduceBEq, Nat.reduceMul, Nat.reduceSub, Int.reduceToNat, Int.reduceEq, Int.reduceLT, Int.reduceLE, Int.reduceNeg, Int.reduceAdd, Int.reduceSub, Int.reduceMul, Try.f26, kr26, kp26_7, kp26_4, ow26_7, ow26_4, ty3, ty4, ty9, ty22, ty23, ty27, ty34, ty36, tb4, hv, h]
end
end Go.Proofs.Ytochkebkfoophaa.Tev
