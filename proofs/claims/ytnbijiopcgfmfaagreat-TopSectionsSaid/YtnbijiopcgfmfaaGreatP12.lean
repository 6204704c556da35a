/- Part 12: CAr2, TevLit, TevPrim, CAr3, CAr4, CAr5, CAr6. -/
import Derived.Test.YtnbijiopcgfmfaaGreatP10
import Derived.Test.YtnbijiopcgfmfaaGreatP08
import Derived.Test.YtnbijiopcgfmfaaGreatP11
/- Values: which kind an operation has. -/
namespace Go.Proofs.YtnbijiopcgfmfaaGreat.Tev
open Go Go.RowKit Go.Proofs Go.Proofs.YtnbijiopcgfmfaaGreat.Q
set_option linter.unusedSectionVars false
set_option maxRecDepth 100000
set_option maxHeartbeats 0
set_option linter.unusedSimpArgs false
set_option linter.unusedVariables false
noncomputable instance memS (s : ByteArray) (l : List ByteArray) : Decidable (s ∈ l) := Classical.propDecidable _
abbrev Str (s : ByteArray) : T := .c (.v (.string s))
def strs (l : List ByteArray) : List C := l.map fun s => .v (.string s)
theorem strs_len (l : List ByteArray) : (strs l).length = l.length := by simp [strs]
theorem strs_get (l : List ByteArray) (i : Nat) : (strs l)[i]? = (l[i]?).map fun s => .v (.string s) := by simp [strs]
theorem rowAt_strs {l : List ByteArray} {n : Nat} (h : l.length = n) : rowAt (strs l) 0 n = strs l := by
  subst h; unfold rowAt; rw [List.drop_zero, ← strs_len, List.take_length]
theorem l_Index (s : ByteArray) (b : Bool) (cap : Option Nat) (xs : List ByteArray) (hx : (xs.length : Int) ≤ 9223372036854775806) :
    ∀ (r : List ByteArray) (i : Nat), xs.drop i = r → (s ∈ r → ∃ n : Int, 0 ≤ n ∧ lp E0 pr0 69 2 ⟨[(0, SL b cap xs.length (strs xs)), (1, Str s), (7, I xs.length), (8, I i)], [], 0⟩ = some (.ret, ⟨[(4, I n)], [], 0⟩)) ∧
      (¬ s ∈ r → lp E0 pr0 69 2 ⟨[(0, SL b cap xs.length (strs xs)), (1, Str s), (7, I xs.length), (8, I i)], [], 0⟩ = some (.exit 0, ⟨[], [], 0⟩)) := by
  intro r
  induction r with
  | nil =>
    intro i hi
    have h1 := drop_nil hi
    have h2 : ¬ (i : Int) < xs.length := by omega
    refine ⟨fun h => by simp at h, fun _ => ?_⟩
    rw [lp_eq lp69_2]
    simp (config := { maxSteps := 1000000 }) (disch := omega) only [push_cast, ↓reduceIte, Nat.reduceEqDiff, Nat.reduceAdd, Nat.reduceLT, Nat.reduceLeDiff, Nat.reduceBEq, Nat.reduceMul, Nat.reduceSub, Int.reduceToNat, Int.reduceEq, Int.reduceLT, Int.reduceLE, Int.reduceNeg, Int.reduceAdd, Int.reduceSub, Int.reduceMul, Tryz.f69, kr69, kp69_2, ow69_2, ty3, ty9, ty77, h2]
  | cons x r ih =>
    intro i hi
    obtain ⟨h1, h2, h3⟩ := drop_cons hi
    have h4 : (i : Int) < xs.length := by omega
    obtain ⟨ih1, ih2⟩ := ih (i + 1) h3
    simp only [cast1] at ih1 ih2
    have h5 : (strs xs)[i]? = some (.v (.string x)) := by rw [strs_get, h2]; rfl
    by_cases c : s = x
    · subst c
      refine ⟨fun _ => ⟨i, by omega, ?_⟩, fun h => absurd List.mem_cons_self h⟩
      rw [lp_eq lp69_2]
      simp (config := { maxSteps := 1000000 }) (disch := omega) only [push_cast, ↓reduceIte, Nat.reduceEqDiff, Nat.reduceAdd, Nat.reduceLT, Nat.reduceLeDiff, Nat.reduceBEq, Nat.reduceMul, Nat.reduceSub, Int.reduceToNat, Int.reduceEq, Int.reduceLT, Int.reduceLE, Int.reduceNeg, Int.reduceAdd, Int.reduceSub, Int.reduceMul, Tryz.f69, kr69, kp69_2, ow69_2, ty3, ty9, ty77, h1, h4, h5]
    · refine ⟨fun h => ?_, fun h => ?_⟩
      · obtain ⟨n, hn, h6⟩ := ih1 ((List.mem_cons.1 h).resolve_left c)
        refine ⟨n, hn, ?_⟩
        rw [lp_eq lp69_2]
        simp (config := { maxSteps := 1000000 }) (disch := omega) only [push_cast, ↓reduceIte, Nat.reduceEqDiff, Nat.reduceAdd, Nat.reduceLT, Nat.reduceLeDiff, Nat.reduceBEq, Nat.reduceMul, Nat.reduceSub, Int.reduceToNat, Int.reduceEq, Int.reduceLT, Int.reduceLE, Int.reduceNeg, Int.reduceAdd, Int.reduceSub, Int.reduceMul, Tryz.f69, kr69, kp69_2, ow69_2, ty3, ty9, ty77, h1, h4, h5, c, h6]
      · have h6 := ih2 fun q => h (List.mem_cons_of_mem _ q)
        rw [lp_eq lp69_2]
        simp (config := { maxSteps := 1000000 }) (disch := omega) only [push_cast, ↓reduceIte, Nat.reduceEqDiff, Nat.reduceAdd, Nat.reduceLT, Nat.reduceLeDiff, Nat.reduceBEq, Nat.reduceMul, Nat.reduceSub, Int.reduceToNat, Int.reduceEq, Int.reduceLT, Int.reduceLE, Int.reduceNeg, Int.reduceAdd, Int.reduceSub, Int.reduceMul, Tryz.f69, kr69, kp69_2, ow69_2, ty3, ty9, ty77, h1, h4, h5, c, h6]
theorem c_ContainsS (s : ByteArray) (b : Bool) (cap : Option Nat) (xs : List ByteArray) (hx : (xs.length : Int) ≤ 9223372036854775806) :
    CALL 42 [SL b cap xs.length (strs xs), Str s] = some (B (decide (s ∈ xs)), []) := by
  obtain ⟨h1, h2⟩ := l_Index s b cap xs hx xs 0 rfl
  simp only [Int.natCast_zero] at h1 h2
  by_cases c : s ∈ xs
  · obtain ⟨n, hn, h3⟩ := h1 c
    have h4 : CALL 69 [SL b cap xs.length (strs xs), Str s] = some (I n, []) := by
      refine lim_run (fn := Tryz.f69) fn69 rfl body69 (Nat.le_of_ble_eq_true rfl) ok69 ?_
      simp (config := { maxSteps := 1000000 }) (disch := omega) only [push_cast, ↓reduceIte, Nat.reduceEqDiff, Nat.reduceAdd, Nat.reduceLT, Nat.reduceLeDiff, Nat.reduceBEq, Nat.reduceMul, Nat.reduceSub, Int.reduceToNat, Int.reduceEq, Int.reduceLT, Int.reduceLE, Int.reduceNeg, Int.reduceAdd, Int.reduceSub, Int.reduceMul, Tryz.f69, kr69, kp69_2, ow69_2, ty3, ty9, ty77, h3]
    rw [decide_eq_true c]
    refine lim_run (fn := Tryz.f42) fn42 rfl body42 (Nat.le_of_ble_eq_true rfl) ok42 ?_
    simp (config := { maxSteps := 1000000 }) (disch := omega) only [push_cast, ↓reduceIte, Nat.reduceEqDiff, Nat.reduceAdd, Nat.reduceLT, Nat.reduceLeDiff, Nat.reduceBEq, Nat.reduceMul, Nat.reduceSub, Int.reduceToNat, Int.reduceEq, Int.reduceLT, Int.reduceLE, Int.reduceNeg, Int.reduceAdd, Int.reduceSub, Int.reduceMul, Tryz.f42, kr42, ty4, tb4, h4, hn]
  · have h3 := h2 c
    have h4 : CALL 69 [SL b cap xs.length (strs xs), Str s] = some (I (-1), []) := by
      refine lim_run (fn := Tryz.f69) fn69 rfl body69 (Nat.le_of_ble_eq_true rfl) ok69 ?_
      simp (config := { maxSteps := 1000000 }) (disch := omega) only [push_cast, ↓reduceIte, Nat.reduceEqDiff, Nat.reduceAdd, Nat.reduceLT, Nat.reduceLeDiff, Nat.reduceBEq, Nat.reduceMul, Nat.reduceSub, Int.reduceToNat, Int.reduceEq, Int.reduceLT, Int.reduceLE, Int.reduceNeg, Int.reduceAdd, Int.reduceSub, Int.reduceMul, Tryz.f69, kr69, kp69_2, ow69_2, ty3, ty9, ty77, h3]
    rw [decide_eq_false c]
    refine lim_run (fn := Tryz.f42) fn42 rfl body42 (Nat.le_of_ble_eq_true rfl) ok42 ?_
    simp (config := { maxSteps := 1000000 }) (disch := omega) only [push_cast, ↓reduceIte, Nat.reduceEqDiff, Nat.reduceAdd, Nat.reduceLT, Nat.reduceLeDiff, Nat.reduceBEq, Nat.reduceMul, Nat.reduceSub, Int.reduceToNat, Int.reduceEq, Int.reduceLT, Int.reduceLE, Int.reduceNeg, Int.reduceAdd, Int.reduceSub, Int.reduceMul, Tryz.f42, kr42, ty4, tb4, h4]
theorem c_ContainsX (s : ByteArray) (xs : List ByteArray) (hx : (xs.length : Int) ≤ 9223372036854775806) : ∃ x : Bool, (x = true ↔ s ∈ xs) ∧ ∀ b cap, CALL 42 [SL b cap xs.length (strs xs), Str s] = some (B x, []) :=
  ⟨decide (s ∈ xs), by simp, fun b cap => c_ContainsS s b cap xs hx⟩
def sAdd : ByteArray := ⟨#[43]⟩
def sSub : ByteArray := ⟨#[45]⟩
def sMul : ByteArray := ⟨#[42]⟩
def sDiv : ByteArray := ⟨#[47]⟩
def sEq : ByteArray := ⟨#[61, 61]⟩
def sNe : ByteArray := ⟨#[47, 61]⟩
def sLt : ByteArray := ⟨#[60]⟩
def sLe : ByteArray := ⟨#[60, 61]⟩
def sGt : ByteArray := ⟨#[62]⟩
def sGe : ByteArray := ⟨#[62, 61]⟩
def sAnd : ByteArray := ⟨#[46, 97, 110, 100, 46]⟩
def sOr : ByteArray := ⟨#[46, 111, 114, 46]⟩
def ariL : List ByteArray := [sAdd, sSub, sMul, sDiv]
def cmpL : List ByteArray := [sEq, sNe, sLt, sLe, sGt, sGe]
def logL : List ByteArray := [sEq, sNe, sAnd, sOr]
noncomputable def kindQ (op : ByteArray) (a b : Int) : Int := if op ∈ ariL ∧ numQ a ∧ numQ b then mx a b else if op ∈ cmpL ∧ numQ a ∧ numQ b then 2 else if op ∈ logL ∧ a = 2 ∧ b = 2 then 2 else 0
theorem ari_cmp {op : ByteArray} (h : op ∈ ariL) : ¬ op ∈ cmpL ∧ ¬ op ∈ logL := by
  simp only [ariL, List.mem_cons, List.not_mem_nil, or_false] at h
  rcases h with rfl | rfl | rfl | rfl <;> simp [cmpL, logL, sAdd, sSub, sMul, sDiv, sEq, sNe, sLt, sLe, sGt, sGe, sAnd, sOr]
theorem num_two {a : Int} (h : numQ a) : ¬ a = 2 := by unfold numQ at h; omega
theorem a_Kind (op : ByteArray) (a b : Int) (hb : ¬ b = 0) : CALL 19 [Str op, I a, I b] = some (I (kindQ op a b), []) := by
  obtain ⟨x1, q1, h1⟩ := c_ContainsX op ariL (by decide)
  obtain ⟨x2, q2, h2⟩ := c_ContainsX op cmpL (by decide)
  obtain ⟨x3, q3, h3⟩ := c_ContainsX op logL (by decide)
  have n1 := a_isNumber a
  have n2 := a_isNumber b
  simp only [ariL, cmpL, logL, strs, List.map_cons, List.map_nil, List.length_cons, List.length_nil, Nat.zero_add, Nat.reduceAdd, sAdd, sSub, sMul, sDiv, sEq, sNe, sLt, sLe, sGt, sGe, sAnd, sOr] at h1 h2 h3
  unfold kindQ
  simp only [← q1, ← q2, ← q3]
  have e6 : rowAt [C.v (Value.string { data := #[61, 61] }), C.v (Value.string { data := #[47, 61] }), C.v (Value.string { data := #[60] }), C.v (Value.string { data := #[60, 61] }), C.v (Value.string { data := #[62] }), C.v (Value.string { data := #[62, 61] })] 0 6 = [C.v (Value.string { data := #[61, 61] }), C.v (Value.string { data := #[47, 61] }), C.v (Value.string { data := #[60] }), C.v (Value.string { data := #[60, 61] }), C.v (Value.string { data := #[62] }), C.v (Value.string { data := #[62, 61] })] := rfl
  have d1 : x1 = true → x2 = false ∧ x3 = false := fun h => by
    obtain ⟨h1, h2⟩ := ari_cmp (q1.1 h)
    rw [← q2] at h1; rw [← q3] at h2
    exact ⟨by cases x2 <;> simp_all, by cases x3 <;> simp_all⟩
  by_cases c2 : numQ a
  · by_cases c3 : numQ b
    · simp only [c2, c3, decide_true, decide_false, and_true, and_false] at n1 n2 ⊢
      · cases x1
        · cases x2
          · cases x3
            · refine lim_run (fn := Tryz.f19) fn19 rfl body19 (Nat.le_of_ble_eq_true rfl) ok19 ?_
              simp (config := { maxSteps := 1000000 }) (disch := omega) only [push_cast, ↓reduceIte, Nat.reduceEqDiff, Nat.reduceAdd, Nat.reduceLT, Nat.reduceLeDiff, Nat.reduceBEq, Nat.reduceMul, Nat.reduceSub, Int.reduceToNat, Int.reduceEq, Int.reduceLT, Int.reduceLE, Int.reduceNeg, Int.reduceAdd, Int.reduceSub, Int.reduceMul, Tryz.f19, kr19, ty3, ty9, ty77, h1, h2, h3, n1, n2, e6, hb]
              try simp
            · have c4 := num_two c2
              · refine lim_run (fn := Tryz.f19) fn19 rfl body19 (Nat.le_of_ble_eq_true rfl) ok19 ?_
                simp (config := { maxSteps := 1000000 }) (disch := omega) only [push_cast, ↓reduceIte, Nat.reduceEqDiff, Nat.reduceAdd, Nat.reduceLT, Nat.reduceLeDiff, Nat.reduceBEq, Nat.reduceMul, Nat.reduceSub, Int.reduceToNat, Int.reduceEq, Int.reduceLT, Int.reduceLE, Int.reduceNeg, Int.reduceAdd, Int.reduceSub, Int.reduceMul, Tryz.f19, kr19, ty3, ty9, ty77, h1, h2, h3, n1, n2, e6, hb, c4]
                try simp [c4]
          · refine lim_run (fn := Tryz.f19) fn19 rfl body19 (Nat.le_of_ble_eq_true rfl) ok19 ?_
            simp (config := { maxSteps := 1000000 }) (disch := omega) only [push_cast, ↓reduceIte, Nat.reduceEqDiff, Nat.reduceAdd, Nat.reduceLT, Nat.reduceLeDiff, Nat.reduceBEq, Nat.reduceMul, Nat.reduceSub, Int.reduceToNat, Int.reduceEq, Int.reduceLT, Int.reduceLE, Int.reduceNeg, Int.reduceAdd, Int.reduceSub, Int.reduceMul, Tryz.f19, kr19, ty3, ty9, ty77, h1, h2, h3, n1, n2, e6, hb]
            try simp
        · obtain ⟨rfl, rfl⟩ := d1 rfl
          · refine lim_run (fn := Tryz.f19) fn19 rfl body19 (Nat.le_of_ble_eq_true rfl) ok19 ?_
            simp (config := { maxSteps := 1000000 }) (disch := omega) only [push_cast, ↓reduceIte, Nat.reduceEqDiff, Nat.reduceAdd, Nat.reduceLT, Nat.reduceLeDiff, Nat.reduceBEq, Nat.reduceMul, Nat.reduceSub, Int.reduceToNat, Int.reduceEq, Int.reduceLT, Int.reduceLE, Int.reduceNeg, Int.reduceAdd, Int.reduceSub, Int.reduceMul, Tryz.f19, kr19, ty3, ty9, ty77, h1, h2, h3, n1, n2, e6, hb]
            try simp
    · simp only [c2, c3, decide_true, decide_false, and_true, and_false] at n1 n2 ⊢
      · cases x1
        · cases x2
          · cases x3
            · refine lim_run (fn := Tryz.f19) fn19 rfl body19 (Nat.le_of_ble_eq_true rfl) ok19 ?_
              simp (config := { maxSteps := 1000000 }) (disch := omega) only [push_cast, ↓reduceIte, Nat.reduceEqDiff, Nat.reduceAdd, Nat.reduceLT, Nat.reduceLeDiff, Nat.reduceBEq, Nat.reduceMul, Nat.reduceSub, Int.reduceToNat, Int.reduceEq, Int.reduceLT, Int.reduceLE, Int.reduceNeg, Int.reduceAdd, Int.reduceSub, Int.reduceMul, Tryz.f19, kr19, ty3, ty9, ty77, h1, h2, h3, n1, n2, e6, hb]
              try simp
            · have c4 := num_two c2
              · refine lim_run (fn := Tryz.f19) fn19 rfl body19 (Nat.le_of_ble_eq_true rfl) ok19 ?_
                simp (config := { maxSteps := 1000000 }) (disch := omega) only [push_cast, ↓reduceIte, Nat.reduceEqDiff, Nat.reduceAdd, Nat.reduceLT, Nat.reduceLeDiff, Nat.reduceBEq, Nat.reduceMul, Nat.reduceSub, Int.reduceToNat, Int.reduceEq, Int.reduceLT, Int.reduceLE, Int.reduceNeg, Int.reduceAdd, Int.reduceSub, Int.reduceMul, Tryz.f19, kr19, ty3, ty9, ty77, h1, h2, h3, n1, n2, e6, hb, c4]
                try simp [c4]
          · cases x3
            · refine lim_run (fn := Tryz.f19) fn19 rfl body19 (Nat.le_of_ble_eq_true rfl) ok19 ?_
              simp (config := { maxSteps := 1000000 }) (disch := omega) only [push_cast, ↓reduceIte, Nat.reduceEqDiff, Nat.reduceAdd, Nat.reduceLT, Nat.reduceLeDiff, Nat.reduceBEq, Nat.reduceMul, Nat.reduceSub, Int.reduceToNat, Int.reduceEq, Int.reduceLT, Int.reduceLE, Int.reduceNeg, Int.reduceAdd, Int.reduceSub, Int.reduceMul, Tryz.f19, kr19, ty3, ty9, ty77, h1, h2, h3, n1, n2, e6, hb]
              try simp
            · have c4 := num_two c2
              · refine lim_run (fn := Tryz.f19) fn19 rfl body19 (Nat.le_of_ble_eq_true rfl) ok19 ?_
                simp (config := { maxSteps := 1000000 }) (disch := omega) only [push_cast, ↓reduceIte, Nat.reduceEqDiff, Nat.reduceAdd, Nat.reduceLT, Nat.reduceLeDiff, Nat.reduceBEq, Nat.reduceMul, Nat.reduceSub, Int.reduceToNat, Int.reduceEq, Int.reduceLT, Int.reduceLE, Int.reduceNeg, Int.reduceAdd, Int.reduceSub, Int.reduceMul, Tryz.f19, kr19, ty3, ty9, ty77, h1, h2, h3, n1, n2, e6, hb, c4]
                try simp [c4]
        · obtain ⟨rfl, rfl⟩ := d1 rfl
          · refine lim_run (fn := Tryz.f19) fn19 rfl body19 (Nat.le_of_ble_eq_true rfl) ok19 ?_
            simp (config := { maxSteps := 1000000 }) (disch := omega) only [push_cast, ↓reduceIte, Nat.reduceEqDiff, Nat.reduceAdd, Nat.reduceLT, Nat.reduceLeDiff, Nat.reduceBEq, Nat.reduceMul, Nat.reduceSub, Int.reduceToNat, Int.reduceEq, Int.reduceLT, Int.reduceLE, Int.reduceNeg, Int.reduceAdd, Int.reduceSub, Int.reduceMul, Tryz.f19, kr19, ty3, ty9, ty77, h1, h2, h3, n1, n2, e6, hb]
            try simp
  · by_cases c3 : numQ b
    · simp only [c2, c3, decide_true, decide_false, and_true, and_false, false_and] at n1 n2 ⊢
      · cases x1
        · cases x2
          · cases x3
            · refine lim_run (fn := Tryz.f19) fn19 rfl body19 (Nat.le_of_ble_eq_true rfl) ok19 ?_
              simp (config := { maxSteps := 1000000 }) (disch := omega) only [push_cast, ↓reduceIte, Nat.reduceEqDiff, Nat.reduceAdd, Nat.reduceLT, Nat.reduceLeDiff, Nat.reduceBEq, Nat.reduceMul, Nat.reduceSub, Int.reduceToNat, Int.reduceEq, Int.reduceLT, Int.reduceLE, Int.reduceNeg, Int.reduceAdd, Int.reduceSub, Int.reduceMul, Tryz.f19, kr19, ty3, ty9, ty77, h1, h2, h3, n1, n2, e6, hb]
              try simp
            · by_cases c4 : a = 2
              · subst c4
                have c5 := num_two c3
                · refine lim_run (fn := Tryz.f19) fn19 rfl body19 (Nat.le_of_ble_eq_true rfl) ok19 ?_
                  simp (config := { maxSteps := 1000000 }) (disch := omega) only [push_cast, ↓reduceIte, Nat.reduceEqDiff, Nat.reduceAdd, Nat.reduceLT, Nat.reduceLeDiff, Nat.reduceBEq, Nat.reduceMul, Nat.reduceSub, Int.reduceToNat, Int.reduceEq, Int.reduceLT, Int.reduceLE, Int.reduceNeg, Int.reduceAdd, Int.reduceSub, Int.reduceMul, Tryz.f19, kr19, ty3, ty9, ty77, h1, h2, h3, n1, n2, e6, hb, c5]
                  try simp [c5]
              · refine lim_run (fn := Tryz.f19) fn19 rfl body19 (Nat.le_of_ble_eq_true rfl) ok19 ?_
                simp (config := { maxSteps := 1000000 }) (disch := omega) only [push_cast, ↓reduceIte, Nat.reduceEqDiff, Nat.reduceAdd, Nat.reduceLT, Nat.reduceLeDiff, Nat.reduceBEq, Nat.reduceMul, Nat.reduceSub, Int.reduceToNat, Int.reduceEq, Int.reduceLT, Int.reduceLE, Int.reduceNeg, Int.reduceAdd, Int.reduceSub, Int.reduceMul, Tryz.f19, kr19, ty3, ty9, ty77, h1, h2, h3, n1, n2, e6, hb, c4]
                try simp [c4]
          · cases x3
            · refine lim_run (fn := Tryz.f19) fn19 rfl body19 (Nat.le_of_ble_eq_true rfl) ok19 ?_
              simp (config := { maxSteps := 1000000 }) (disch := omega) only [push_cast, ↓reduceIte, Nat.reduceEqDiff, Nat.reduceAdd, Nat.reduceLT, Nat.reduceLeDiff, Nat.reduceBEq, Nat.reduceMul, Nat.reduceSub, Int.reduceToNat, Int.reduceEq, Int.reduceLT, Int.reduceLE, Int.reduceNeg, Int.reduceAdd, Int.reduceSub, Int.reduceMul, Tryz.f19, kr19, ty3, ty9, ty77, h1, h2, h3, n1, n2, e6, hb]
              try simp
            · by_cases c4 : a = 2
              · subst c4
                have c5 := num_two c3
                · refine lim_run (fn := Tryz.f19) fn19 rfl body19 (Nat.le_of_ble_eq_true rfl) ok19 ?_
                  simp (config := { maxSteps := 1000000 }) (disch := omega) only [push_cast, ↓reduceIte, Nat.reduceEqDiff, Nat.reduceAdd, Nat.reduceLT, Nat.reduceLeDiff, Nat.reduceBEq, Nat.reduceMul, Nat.reduceSub, Int.reduceToNat, Int.reduceEq, Int.reduceLT, Int.reduceLE, Int.reduceNeg, Int.reduceAdd, Int.reduceSub, Int.reduceMul, Tryz.f19, kr19, ty3, ty9, ty77, h1, h2, h3, n1, n2, e6, hb, c5]
                  try simp [c5]
              · refine lim_run (fn := Tryz.f19) fn19 rfl body19 (Nat.le_of_ble_eq_true rfl) ok19 ?_
                simp (config := { maxSteps := 1000000 }) (disch := omega) only [push_cast, ↓reduceIte, Nat.reduceEqDiff, Nat.reduceAdd, Nat.reduceLT, Nat.reduceLeDiff, Nat.reduceBEq, Nat.reduceMul, Nat.reduceSub, Int.reduceToNat, Int.reduceEq, Int.reduceLT, Int.reduceLE, Int.reduceNeg, Int.reduceAdd, Int.reduceSub, Int.reduceMul, Tryz.f19, kr19, ty3, ty9, ty77, h1, h2, h3, n1, n2, e6, hb, c4]
                try simp [c4]
        · obtain ⟨rfl, rfl⟩ := d1 rfl
          · refine lim_run (fn := Tryz.f19) fn19 rfl body19 (Nat.le_of_ble_eq_true rfl) ok19 ?_
            simp (config := { maxSteps := 1000000 }) (disch := omega) only [push_cast, ↓reduceIte, Nat.reduceEqDiff, Nat.reduceAdd, Nat.reduceLT, Nat.reduceLeDiff, Nat.reduceBEq, Nat.reduceMul, Nat.reduceSub, Int.reduceToNat, Int.reduceEq, Int.reduceLT, Int.reduceLE, Int.reduceNeg, Int.reduceAdd, Int.reduceSub, Int.reduceMul, Tryz.f19, kr19, ty3, ty9, ty77, h1, h2, h3, n1, n2, e6, hb]
            try simp
    · simp only [c2, c3, decide_true, decide_false, and_true, and_false, false_and] at n1 n2 ⊢
      · cases x1
        · cases x2
          · cases x3
            · refine lim_run (fn := Tryz.f19) fn19 rfl body19 (Nat.le_of_ble_eq_true rfl) ok19 ?_
              simp (config := { maxSteps := 1000000 }) (disch := omega) only [push_cast, ↓reduceIte, Nat.reduceEqDiff, Nat.reduceAdd, Nat.reduceLT, Nat.reduceLeDiff, Nat.reduceBEq, Nat.reduceMul, Nat.reduceSub, Int.reduceToNat, Int.reduceEq, Int.reduceLT, Int.reduceLE, Int.reduceNeg, Int.reduceAdd, Int.reduceSub, Int.reduceMul, Tryz.f19, kr19, ty3, ty9, ty77, h1, h2, h3, n1, n2, e6, hb]
              try simp
            · by_cases c4 : a = 2
              · subst c4
                by_cases c5 : b = 2
                · subst c5
                  · refine lim_run (fn := Tryz.f19) fn19 rfl body19 (Nat.le_of_ble_eq_true rfl) ok19 ?_
                    simp (config := { maxSteps := 1000000 }) (disch := omega) only [push_cast, ↓reduceIte, Nat.reduceEqDiff, Nat.reduceAdd, Nat.reduceLT, Nat.reduceLeDiff, Nat.reduceBEq, Nat.reduceMul, Nat.reduceSub, Int.reduceToNat, Int.reduceEq, Int.reduceLT, Int.reduceLE, Int.reduceNeg, Int.reduceAdd, Int.reduceSub, Int.reduceMul, Tryz.f19, kr19, ty3, ty9, ty77, h1, h2, h3, n1, n2, e6, hb]
                    try simp
                · refine lim_run (fn := Tryz.f19) fn19 rfl body19 (Nat.le_of_ble_eq_true rfl) ok19 ?_
                  simp (config := { maxSteps := 1000000 }) (disch := omega) only [push_cast, ↓reduceIte, Nat.reduceEqDiff, Nat.reduceAdd, Nat.reduceLT, Nat.reduceLeDiff, Nat.reduceBEq, Nat.reduceMul, Nat.reduceSub, Int.reduceToNat, Int.reduceEq, Int.reduceLT, Int.reduceLE, Int.reduceNeg, Int.reduceAdd, Int.reduceSub, Int.reduceMul, Tryz.f19, kr19, ty3, ty9, ty77, h1, h2, h3, n1, n2, e6, hb, c5]
                  try simp [c5]
              · refine lim_run (fn := Tryz.f19) fn19 rfl body19 (Nat.le_of_ble_eq_true rfl) ok19 ?_
                simp (config := { maxSteps := 1000000 }) (disch := omega) only [push_cast, ↓reduceIte, Nat.reduceEqDiff, Nat.reduceAdd, Nat.reduceLT, Nat.reduceLeDiff, Nat.reduceBEq, Nat.reduceMul, Nat.reduceSub, Int.reduceToNat, Int.reduceEq, Int.reduceLT, Int.reduceLE, Int.reduceNeg, Int.reduceAdd, Int.reduceSub, Int.reduceMul, Tryz.f19, kr19, ty3, ty9, ty77, h1, h2, h3, n1, n2, e6, hb, c4]
                try simp [c4]
          · cases x3
            · refine lim_run (fn := Tryz.f19) fn19 rfl body19 (Nat.le_of_ble_eq_true rfl) ok19 ?_
              simp (config := { maxSteps := 1000000 }) (disch := omega) only [push_cast, ↓reduceIte, Nat.reduceEqDiff, Nat.reduceAdd, Nat.reduceLT, Nat.reduceLeDiff, Nat.reduceBEq, Nat.reduceMul, Nat.reduceSub, Int.reduceToNat, Int.reduceEq, Int.reduceLT, Int.reduceLE, Int.reduceNeg, Int.reduceAdd, Int.reduceSub, Int.reduceMul, Tryz.f19, kr19, ty3, ty9, ty77, h1, h2, h3, n1, n2, e6, hb]
              try simp
            · by_cases c4 : a = 2
              · subst c4
                by_cases c5 : b = 2
                · subst c5
                  · refine lim_run (fn := Tryz.f19) fn19 rfl body19 (Nat.le_of_ble_eq_true rfl) ok19 ?_
                    simp (config := { maxSteps := 1000000 }) (disch := omega) only [push_cast, ↓reduceIte, Nat.reduceEqDiff, Nat.reduceAdd, Nat.reduceLT, Nat.reduceLeDiff, Nat.reduceBEq, Nat.reduceMul, Nat.reduceSub, Int.reduceToNat, Int.reduceEq, Int.reduceLT, Int.reduceLE, Int.reduceNeg, Int.reduceAdd, Int.reduceSub, Int.reduceMul, Tryz.f19, kr19, ty3, ty9, ty77, h1, h2, h3, n1, n2, e6, hb]
                    try simp
                · refine lim_run (fn := Tryz.f19) fn19 rfl body19 (Nat.le_of_ble_eq_true rfl) ok19 ?_
                  simp (config := { maxSteps := 1000000 }) (disch := omega) only [push_cast, ↓reduceIte, Nat.reduceEqDiff, Nat.reduceAdd, Nat.reduceLT, Nat.reduceLeDiff, Nat.reduceBEq, Nat.reduceMul, Nat.reduceSub, Int.reduceToNat, Int.reduceEq, Int.reduceLT, Int.reduceLE, Int.reduceNeg, Int.reduceAdd, Int.reduceSub, Int.reduceMul, Tryz.f19, kr19, ty3, ty9, ty77, h1, h2, h3, n1, n2, e6, hb, c5]
                  try simp [c5]
              · refine lim_run (fn := Tryz.f19) fn19 rfl body19 (Nat.le_of_ble_eq_true rfl) ok19 ?_
                simp (config := { maxSteps := 1000000 }) (disch := omega) only [push_cast, ↓reduceIte, Nat.reduceEqDiff, Nat.reduceAdd, Nat.reduceLT, Nat.reduceLeDiff, Nat.reduceBEq, Nat.reduceMul, Nat.reduceSub, Int.reduceToNat, Int.reduceEq, Int.reduceLT, Int.reduceLE, Int.reduceNeg, Int.reduceAdd, Int.reduceSub, Int.reduceMul, Tryz.f19, kr19, ty3, ty9, ty77, h1, h2, h3, n1, n2, e6, hb, c4]
                try simp [c4]
        · obtain ⟨rfl, rfl⟩ := d1 rfl
          · refine lim_run (fn := Tryz.f19) fn19 rfl body19 (Nat.le_of_ble_eq_true rfl) ok19 ?_
            simp (config := { maxSteps := 1000000 }) (disch := omega) only [push_cast, ↓reduceIte, Nat.reduceEqDiff, Nat.reduceAdd, Nat.reduceLT, Nat.reduceLeDiff, Nat.reduceBEq, Nat.reduceMul, Nat.reduceSub, Int.reduceToNat, Int.reduceEq, Int.reduceLT, Int.reduceLE, Int.reduceNeg, Int.reduceAdd, Int.reduceSub, Int.reduceMul, Tryz.f19, kr19, ty3, ty9, ty77, h1, h2, h3, n1, n2, e6, hb]
            try simp
end Go.Proofs.YtnbijiopcgfmfaaGreat.Tev
/- A region that makes a map of functions by strings and looks one up. -/
namespace Go.Proofs.YtnbijiopcgfmfaaGreat.Tev
open Go Go.RowKit Go.Proofs.YtnbijiopcgfmfaaGreat.Q
set_option linter.unusedSectionVars false
set_option linter.unusedVariables false
set_option linter.unusedSimpArgs false
section
variable {P : Program} {m : Nat} {w0 : World} {F0 : Nat → Prop} {K : Ctx} {S : St} {a : Act} {w : World}
/-- New blocks behind the old ones. -/
theorem Inv.grew (h : Inv m w0 F0 K S a) {w' : World} (hb : Below K.w.heap.size K.w w') : Inv m w0 F0 { K with w := w' } S a := by
  have st : Step K S.n (obj S.o) .und [] [] { K with w := w' } undef := {
    ext := ⟨rfl, fun _ h => h, fun _ _ h => h, fun b hb' => hb.block b (hb'.elim (h.good.F b) fun q => Nat.lt_of_lt_of_le q h.good.base), fun b cs e fr hh => ⟨cs, e, fr, (hb.block b (heap_lt hh)).trans hh, rfl⟩⟩
    below := hb.mono h.good.base
    val := by simp only [RT]
    new := fun i y h => by simp at h
    dom := fun o s h => .inl h
    F := fun b h => .inl h
    frz := fun o l g e b sh _ h => by simp at h
    place := fun i b sh h => by simp at h
    apart := fun i j b sh sh' h => by simp at h
    kept := .inl fun b hb' => hb.block b hb' }
  have hoi := OInv.step (fz := []) (nw := []) h.good h.oi (fun o y s h1 _ => h1) (fun _ o y h => h) (fun i hi => by simp at hi) (fun y hy => by simp at hy) (fun p l l' g gen h1 => by simp at h1) st
  exact { h with
    good := h.good.step h.oi.objs st
    below := h.below.trans (st.below.mono (by rw [h.base]; exact Nat.le_refl _))
    tm := fun t => RT.mono st.ext _ _ (h.tm t)
    oi := by
      refine cast (congrArg (OInv _) (funext fun o => ?_)) hoi
      rw [if_neg (by rintro ⟨h1, h2⟩; simp at h2; omega)]
      cases obj S.o o <;> rfl }
theorem wpl_val {ops : Array Oper} {R : Exit → Act → World → Prop} {o : Oper} {os : List Oper} (hg : o.guard = none) {v : Value} {w' : World} (hr : (execOp a.eval o).run P w = .ok (.value v) w') (h : wpList P ops R os (a.put o.dst v) w') : wpList P ops R (o :: os) a w := by
  unfold wpList
  rw [if_pos (by simp [Region.wanted, hg])]
  refine .inl ?_
  unfold Oper.wp
  rw [hr]
  exact h
theorem wpl_skip {ops : Array Oper} {R : Exit → Act → World → Prop} {o : Oper} {os : List Oper} (hg : o.guard = none) (hd : o.dst = none) {w' : World} (hr : (execOp a.eval o).run P w = .ok .skip w') (h : wpList P ops R os a w') : wpList P ops R (o :: os) a w := by
  unfold wpList
  rw [if_pos (by simp [Region.wanted, hg])]
  refine .inl ?_
  unfold Oper.wp
  rw [hr, Oper.upon_skip, hd]
  exact h
theorem run_mk {o : Oper} {t : TypeId} (ho : o.op = .makeMap t none) : (execOp a.eval o).run P w = .ok (.value (.map (some w.heap.size))) (w.alloc (.map #[] 0)) := by
  unfold execOp
  rw [ho]
  dsimp only
  rw [run_value]
  simp only [Instr.makeMap, Option.map_none, newObj, bind, Pure.pure, Sem.bind, Sem.run, World.alloc_eq, Result.andThen]
theorem checkKeyS_run {k : TypeId} (hk : P.underlying k = some .string) (q : Bool) (m : Nat) (s : ByteArray) (w : World) : (Instr.checkKey q (m + 1) k (.string s)).run P w = .ok () w := by
  simp only [Instr.checkKey, bind, Sem.run_bind', under_run hk, Result.andThen, Pure.pure, Sem.run]
def setM (w : World) (b : Nat) (o : Obj) : World := { w with heap := w.heap.setIfInBounds b o }
theorem run_ins {o : Oper} {t k e : TypeId} {p key x : Operand} {s : ByteArray} (ho : o.op = .insert t p key x) {b cl : Nat} {ents : Array MapEntry} (hp : a.eval p = .map (some b)) (hb : w.heap[b]? = some (.map ents cl))
    (hu1 : P.underlying t = some (.map k e)) (hu2 : P.underlying k = some .string) (hk : a.eval key = .string s) (hq : Instr.findNow .string (.string s) ents.toList 0 = some none) :
    (execOp a.eval o).run P w = .ok .skip (setM w b (.map (ents.push { key := .string s, val := a.eval x, born := cl }) (cl + 1))) := by
  have hset : ∀ o : Obj, (setObj b o).run P w = .ok () (setM w b o) := fun o => by simp [setObj, Sem.run, hb, setM]
  have hc := checkKeyS_run (P := P) hu2 false 9999 s w
  have hf : (Instr.findKey k (.string s) ents.toList).run P w = .ok none w := by
    simp only [Instr.findKey, bind, Sem.run_bind', under_run hu2, Result.andThen, hq, Pure.pure, Sem.run]
  have hrun : (Instr.mapUpdate t (.map (some b)) (.string s) (a.eval x)).run P w = .ok () (setM w b (.map (ents.push { key := .string s, val := a.eval x, born := cl }) (cl + 1))) := by
    simp only [Instr.mapUpdate, bind, Sem.run_bind', under_run hu1, Result.andThen, get_map hb, hc, hf, hset]
  unfold execOp
  rw [ho]
  dsimp only
  rw [hp, hk]
  show (Sem.bind _ _).run P w = _
  rw [Sem.run_bind', hrun]
  rfl
theorem run_look {o : Oper} {t k e : TypeId} {p key : Operand} {s : ByteArray} {i : Nat} {v : Value} (ho : o.op = .lookup t p key false) {b cl : Nat} {ents : Array MapEntry} (hp : a.eval p = .map (some b)) (hb : w.heap[b]? = some (.map ents cl))
    (hu1 : P.underlying t = some (.map k e)) (hu2 : P.underlying k = some .string) (hk : a.eval key = .string s) (hq : Instr.findNow .string (.string s) ents.toList 0 = some (some (i, v))) :
    (execOp a.eval o).run P w = .ok (.value v) w := by
  have hc := checkKeyS_run (P := P) hu2 ents.isEmpty 9999 s w
  have hf : (Instr.findKey k (.string s) ents.toList).run P w = .ok (some (i, v)) w := by
    simp only [Instr.findKey, bind, Sem.run_bind', under_run hu2, Result.andThen, hq, Pure.pure, Sem.run]
  have hrun : (Instr.lookup t (.map (some b)) (.string s) false).run P w = .ok v w := by
    simp only [Instr.lookup, bind, Sem.run_bind', under_run hu1, Result.andThen, get_map hb, Pure.pure, Sem.run, hc, hf]
    rfl
  unfold execOp
  rw [ho]
  dsimp only
  rw [hp, hk, run_value, hrun]
  rfl
theorem run_move {o : Oper} {x : Operand} (ho : o.op = .move x ∨ o.op = .assign x) : (execOp a.eval o).run P w = .ok (.value (a.eval x)) w := by
  unfold execOp
  rcases ho with ho | ho <;> rw [ho] <;> rfl
theorem setM_below {B b : Nat} (h : B ≤ b) (o : Obj) : Below B w (setM w b o) :=
  ⟨rfl, rfl, rfl, by simp [setM], fun k hk => by simp only [setM, Array.getElem?_setIfInBounds]; rw [if_neg (by omega)]⟩
theorem setM_get {b : Nat} (h : b < w.heap.size) (o : Obj) : (setM w b o).heap[b]? = some o := by simp [setM, h]
theorem setM_size (b : Nat) (o : Obj) : (setM w b o).heap.size = w.heap.size := by simp [setM]
theorem alloc_below (o : Obj) : Below w.heap.size w (w.alloc o) := (Below.refl _ _).alloc (Nat.le_refl _) o
theorem eval_put (d : Nat) (v : Value) (t : Nat) (h : d < a.tmps.size) : (a.put (some d) v).eval (.tmp t) = if d = t then v else a.eval (.tmp t) := getD_put a d v t h
/-- A map literal of four functions, and what is found there. -/
structure Lit4 (P : Program) (ops : Array Oper) (g : Nat → FuncId) (sk : Nat → ByteArray) (m t1 t2 t3 t4 t5 tin : Nat) : Prop where
  types : ∃ t k e, P.underlying t = some (.map k e) ∧ P.underlying k = some .string ∧ ∃ o0 o1 o2 o3 o4 o5 o6 o7 o8, ops.toList = [o0, o1, o2, o3, o4, o5, o6, o7, o8] ∧
    o0.op = .makeMap t none ∧ o0.dst = some t1 ∧ o0.guard = none ∧
    o1.op = .insert t (.tmp t1) (.const (.string (sk 0))) (.func (g 0)) ∧ o1.dst = none ∧ o1.guard = none ∧
    o2.op = .insert t (.tmp t1) (.const (.string (sk 1))) (.func (g 1)) ∧ o2.dst = none ∧ o2.guard = none ∧
    o3.op = .insert t (.tmp t1) (.const (.string (sk 2))) (.func (g 2)) ∧ o3.dst = none ∧ o3.guard = none ∧
    o4.op = .insert t (.tmp t1) (.const (.string (sk 3))) (.func (g 3)) ∧ o4.dst = none ∧ o4.guard = none ∧
    o5.op = .move (.tmp t1) ∧ o5.dst = some t2 ∧ o5.guard = none ∧
    o6.op = .move (.tmp tin) ∧ o6.dst = some t3 ∧ o6.guard = none ∧
    o7.op = .lookup t (.tmp t2) (.tmp t3) false ∧ o7.dst = some t4 ∧ o7.guard = none ∧
    o8.op = .assign (.tmp t4) ∧ o8.dst = some t5 ∧ o8.guard = none
  lt : t1 < m ∧ t2 < m ∧ t3 < m ∧ t4 < m ∧ t5 < m
  ne : t1 ≠ tin ∧ t1 ≠ t2 ∧ t2 ≠ tin ∧ t3 ≠ t2 ∧ t1 ≠ t3
def entsOf (g : Nat → FuncId) (sk : Nat → ByteArray) : Nat → Array MapEntry
  | 0 => #[]
  | n + 1 => (entsOf g sk n).push { key := .string (sk n), val := .func (.func (g n)) #[] #[], born := n }
theorem walk_lit {l : List Code} {Q : Ex → St → Prop} {id : Nat} {ops : Array Oper} {g : Nat → FuncId} {sk : Nat → ByteArray} {t1 t2 t3 t4 t5 tin : Nat} (hl : Lit4 P ops g sk m t1 t2 t3 t4 t5 tin) {s : ByteArray} {j i : Nat}
    (hin : get S.t tin = .c (.v (.string s)))
    (hf1 : Instr.findNow .string (.string (sk 0)) (entsOf g sk 0).toList 0 = some none) (hf2 : Instr.findNow .string (.string (sk 1)) (entsOf g sk 1).toList 0 = some none) (hf3 : Instr.findNow .string (.string (sk 2)) (entsOf g sk 2).toList 0 = some none) (hf4 : Instr.findNow .string (.string (sk 3)) (entsOf g sk 3).toList 0 = some none)
    (hf : Instr.findNow .string (.string s) (entsOf g sk 4).toList 0 = some (some (i, .func (.func (g j)) #[] #[])))
    (h : WalkL P m w0 F0 l (((((S.put t1 .junk).put t2 .junk).put t3 .junk).put t4 (.fn (g j) [])).put t5 (.fn (g j) [])) Q) : WalkL P m w0 F0 (.region id ops false :: l) S Q := by
  intro K a hi R hR
  refine wp_region_list ?_
  obtain ⟨t, k, e, hu1, hu2, o0, o1, o2, o3, o4, o5, o6, o7, o8, hops, a1, a2, a3, b1, b2, b3, c1, c2, c3, d1, d2, d3, e1, e2, e3, f1, f2, f3, g1, g2, g3, h1, h2, h3, i1, i2, i3⟩ := hl.types
  obtain ⟨l1, l2, l3, l4, l5⟩ := hl.lt
  obtain ⟨n1, n2, n3, n4, n5⟩ := hl.ne
  have hsz := hi.size
  have hv : a.eval (.tmp tin) = .string s := by
    have := hi.tm tin
    rw [hin] at this
    simp only [RT, RC] at this
    exact this.1
  rw [hops]
  refine wpl_val a3 (run_mk a1) ?_
  rw [a2]
  have p1 : (a.put (some t1) (.map (some K.w.heap.size))).eval (.tmp t1) = .map (some K.w.heap.size) := by rw [eval_put _ _ _ (by omega), if_pos rfl]
  have w1 : (K.w.alloc (.map #[] 0)).heap[K.w.heap.size]? = some (.map (entsOf g sk 0) 0) := heap_alloc_new _ _
  have z1 : K.w.heap.size < (K.w.alloc (.map #[] 0)).heap.size := heap_lt w1
  refine wpl_skip b3 b2 (run_ins b1 p1 w1 hu1 hu2 rfl hf1) ?_
  refine wpl_skip c3 c2 (run_ins c1 p1 (setM_get z1 _) hu1 hu2 rfl hf2) ?_
  refine wpl_skip d3 d2 (run_ins d1 p1 (setM_get (by rw [setM_size]; exact z1) _) hu1 hu2 rfl hf3) ?_
  refine wpl_skip e3 e2 (run_ins e1 p1 (setM_get (by rw [setM_size, setM_size]; exact z1) _) hu1 hu2 rfl hf4) ?_
  refine wpl_val f3 (run_move (.inl f1)) ?_
  rw [f2, p1]
  refine wpl_val g3 (run_move (.inl g1)) ?_
  have p2 : ((a.put (some t1) (.map (some K.w.heap.size))).put (some t2) (.map (some K.w.heap.size))).eval (.tmp tin) = .string s := by
    rw [eval_put _ _ _ (by rw [put_size]; omega), if_neg n3, eval_put _ _ _ (by omega), if_neg n1, hv]
  rw [g2, p2]
  refine wpl_val h3 (run_look h1 (s := s) (b := K.w.heap.size) ?_ (setM_get (by rw [setM_size, setM_size, setM_size]; exact z1) _) hu1 hu2 ?_ hf) ?_
  · rw [eval_put _ _ _ (by rw [put_size, put_size]; omega), if_neg n4, eval_put _ _ _ (by rw [put_size]; omega), if_pos rfl]
  · rw [eval_put _ _ _ (by rw [put_size, put_size]; omega), if_pos rfl]
  rw [h2]
  refine wpl_val i3 (run_move (.inr i1)) ?_
  rw [i2]
  refine hR .nor _ { K with w := _ } _ ?_ h
  have hg : Inv m w0 F0 { K with w := setM (setM (setM (setM (K.w.alloc (.map #[] 0)) K.w.heap.size (.map (entsOf g sk 1) 1)) K.w.heap.size (.map (entsOf g sk 2) 2)) K.w.heap.size (.map (entsOf g sk 3) 3)) K.w.heap.size (.map (entsOf g sk 4) 4) } S a := by
    refine hi.grew ?_
    refine (alloc_below (.map #[] 0)).trans ?_
    refine (setM_below (Nat.le_refl _) (.map (entsOf g sk 1) 1)).trans ?_
    refine (setM_below (Nat.le_refl _) (.map (entsOf g sk 2) 2)).trans ?_
    refine (setM_below (Nat.le_refl _) (.map (entsOf g sk 3) 3)).trans ?_
    exact setM_below (Nat.le_refl _) _
  have j1 := hg.put (some t1) (fun t h => by obtain rfl := Option.some.inj h; exact l1) (x := .junk) (v := .map (some K.w.heap.size)) (by simp only [RT])
  have j2 := j1.put (some t2) (fun t h => by obtain rfl := Option.some.inj h; exact l2) (x := .junk) (v := .map (some K.w.heap.size)) (by simp only [RT])
  have j3 := j2.put (some t3) (fun t h => by obtain rfl := Option.some.inj h; exact l3) (x := .junk) (v := .string s) (by simp only [RT])
  have j4 := j3.put (some t4) (fun t h => by obtain rfl := Option.some.inj h; exact l4) (x := .fn (g j) []) (v := .func (.func (g j)) #[] #[]) (by simp only [RT, RTs]; exact ⟨[], rfl, rfl⟩)
  have j5 := j4.put (some t5) (fun t h => by obtain rfl := Option.some.inj h; exact l5) (x := .fn (g j) []) (v := .func (.func (g j)) #[] #[]) (by simp only [RT, RTs]; exact ⟨[], rfl, rfl⟩)
  rw [eval_put _ _ _ (by rw [put_size, put_size, put_size]; omega), if_pos rfl]
  exact j5
end
end Go.Proofs.YtnbijiopcgfmfaaGreat.Tev
/- Functions told by what holds of them; lists of pieces that the evaluator runs. -/
namespace Go.Proofs.YtnbijiopcgfmfaaGreat.Tev
open Go Go.RowKit Go.Proofs.YtnbijiopcgfmfaaGreat.Q
set_option linter.unusedSectionVars false
set_option linter.unusedVariables false
set_option linter.unusedSimpArgs false
open Classical in
/-- The answers that a relation tells, and those of an elder oracle. -/
noncomputable def relP (Sp : FuncId → List T → R → Prop) (pr : FuncId → List T → Option R) : FuncId → List T → Option R := fun f xs => if h : ∃ r, Sp f xs r then some (Classical.choose h) else pr f xs
theorem relP_ok {P : Program} {Sp : FuncId → List T → R → Prop} {pr : FuncId → List T → Option R} (h : ∀ f xs r, Sp f xs r → CallsR P f xs r) (hpr : CallOK P pr) : CallOK P (relP Sp pr) := by
  intro f ts r hr
  unfold relP at hr
  split at hr
  · rename_i hx
    obtain rfl := Option.some.inj hr
    exact .inl (h f ts _ (Classical.choose_spec hx))
  · exact hpr f ts r hr
theorem relP_of {Sp : FuncId → List T → R → Prop} {pr : FuncId → List T → Option R} {f : FuncId} {xs : List T} {r : R} (h : Sp f xs r) (hu : ∀ r', Sp f xs r' → r' = r) : relP Sp pr f xs = some r := by
  unfold relP
  have hx : ∃ r, Sp f xs r := ⟨r, h⟩
  rw [dif_pos hx, hu _ (Classical.choose_spec hx)]
theorem relP_old {Sp : FuncId → List T → R → Prop} {pr : FuncId → List T → Option R} {f : FuncId} {xs : List T} {r : R} (h : pr f xs = some r) (hu : ∀ r', ¬ Sp f xs r') : relP Sp pr f xs = some r := by
  unfold relP
  rw [dif_neg (fun ⟨r', q⟩ => hu r' q), h]
theorem relP_none {Sp : FuncId → List T → R → Prop} {pr : FuncId → List T → Option R} {f : FuncId} {xs : List T} (hu : ∀ r', ¬ Sp f xs r') : relP Sp pr f xs = pr f xs := by
  unfold relP
  rw [dif_neg (fun ⟨r', q⟩ => hu r' q)]
/-- An elder oracle, but for some functions. -/
def butP (NEW : List Nat) (pr : FuncId → List T → Option R) : FuncId → List T → Option R := fun f xs => if f ∈ NEW then none else pr f xs
theorem butP_ok {P : Program} {NEW : List Nat} {pr : FuncId → List T → Option R} (hpr : CallOK P pr) : CallOK P (butP NEW pr) := by
  intro f ts r h
  unfold butP at h
  split at h
  · simp at h
  · exact hpr f ts r h
theorem ints_inj : ∀ {l l' : List Int}, ints l = ints l' → l = l'
  | [], [], _ => rfl
  | [], _ :: _, h => by simp [ints] at h
  | _ :: _, [], h => by simp [ints] at h
  | x :: l, y :: l', h => by
    simp only [ints, List.map_cons, List.cons.injEq, C.v.injEq, Value.int.injEq, true_and] at h
    rw [h.1, ints_inj (l := l) (l' := l') h.2]
theorem SL_inj {b b' : Bool} {c c' : Option Nat} {n n' : Nat} {l l' : List C} (h : SL b c n l = SL b' c' n' l') : l = l' := by
  cases b <;> cases b' <;> simp [SL] at h
  · exact h.2.2
  · exact h.2.2
section
variable {m : Nat} {w0 : World} {F0 : Nat → Prop} {l : List Code} {S : St} {Q : Ex → St → Prop}
theorem exec_pass (E : Env) (O : Ora) (f : FuncId) : ∀ (cs : List Code) (e : Ex) (S : St), e ≠ .nor → exec E O f e (cs.map It.code) S = some (e, S)
  | [], e, S, _ => exec_nil e S
  | c :: cs, e, S, h => by
    have ih := exec_pass E O f cs e S h
    cases e with
    | nor => exact absurd rfl h
    | exit id => rw [List.map_cons, ex_pass_code]; exact ih
    | ret => rw [List.map_cons, exec_ret]; exact ih
theorem walk_list {E : Env} {O : Ora} (hm : E.P.follows .mixedOrders = true) (hcl : CallOK E.P O.call) {f : FuncId} {body : Code} (hlp : ∀ w0 F0, LoopOK E m w0 F0 body (O.loop f)) (hnd : nodupB ((loopsOf body).map firstId) = true) :
    ∀ (cs : List Code), (∀ c ∈ cs, (∀ b ∈ loopsOf c, b ∈ loopsOf body) ∧ okCode m c = true) → ∀ {S : St} {e : Ex} {S' : St}, exec E O f .nor (cs.map It.code) S = some (e, S') → (match (generalizing := false) e with | .nor => WalkL E.P m w0 F0 l S' Q | e => Q e S') → WalkL E.P m w0 F0 (cs ++ l) S Q
  | [], _, S, e, S', ht, hq => by
    rw [List.map_nil, exec_nil] at ht
    simp only [Option.some.injEq, Prod.mk.injEq] at ht
    obtain ⟨rfl, rfl⟩ := ht
    exact hq
  | c :: cs, hc, S, e, S', ht, hq => by
    obtain ⟨hs, hok⟩ := hc c (by simp)
    simp only [List.map_cons, exec] at ht
    cases h1 : te E O f c S with
    | none => rw [h1] at ht; simp at ht
    | some p =>
      obtain ⟨e1, S1⟩ := p
      rw [h1] at ht
      simp only at ht
      refine walk_te (e := e1) (S' := S1) hm hcl hlp hnd hs hok (by rw [exec_te]; exact h1) ?_
      cases e1 with
      | nor => exact walk_list hm hcl hlp hnd cs (fun c hc' => hc c (by simp [hc'])) ht hq
      | exit id =>
        rw [exec_pass E O f cs _ _ (by simp)] at ht
        simp only [Option.some.injEq, Prod.mk.injEq] at ht
        obtain ⟨rfl, rfl⟩ := ht
        exact hq
      | ret =>
        rw [exec_pass E O f cs _ _ (by simp)] at ht
        simp only [Option.some.injEq, Prod.mk.injEq] at ht
        obtain ⟨rfl, rfl⟩ := ht
        exact hq
theorem walk_mono {P : Program} {c : Code} {l l' : List Code} (h : ∀ S, WalkL P m w0 F0 l S Q → WalkL P m w0 F0 l' S Q) (hw : WalkL P m w0 F0 (c :: l) S Q) : WalkL P m w0 F0 (c :: l') S Q := by
  intro K a hi R hR
  refine hw K a hi R fun e S' K' a' hi' hq => hR e S' K' a' hi' ?_
  cases e with
  | nor => exact h S' hq
  | exit id => exact hq
  | ret => exact hq
theorem walk_assoc {P : Program} {x y : Code} : ∀ (pre : List Code) {S : St}, WalkL P m w0 F0 (pre ++ x :: y :: l) S Q → WalkL P m w0 F0 (pre ++ .seq x y :: l) S Q
  | [], S, h => walk_seq h
  | c :: pre, S, h => walk_mono (fun S hS => walk_assoc pre hS) h
theorem finR_exec {P : Program} {rs : List ResultVar} {ts : List TypeId} {x : Option (Ex × St)} {r : R} (h : finR P rs ts x = some r) : ∃ S', x = some (.ret, S') ∧ retT P rs ts S' = some r := by
  cases x with
  | none => simp [finR] at h
  | some p =>
    obtain ⟨e, S'⟩ := p
    cases e with
    | nor => simp [finR] at h
    | ret => exact ⟨S', rfl, h⟩
    | exit i => simp [finR] at h
def GoodC (m : Nat) (body c : Code) : Prop := (∀ b ∈ loopsOf c, b ∈ loopsOf body) ∧ okCode m c = true
theorem good_seq {body x y : Code} (h : GoodC m body (.seq x y)) : GoodC m body x ∧ GoodC m body y := by
  obtain ⟨h1, h2⟩ := h
  simp only [okCode, okCodeN, Bool.and_eq_true] at h2
  exact ⟨⟨fun b hb => h1 b (by simp [loopsOf, hb]), h2.1⟩, fun b hb => h1 b (by simp [loopsOf, hb]), h2.2⟩
def bB : Code → Code
  | .block _ b => b
  | c => c
end
end Go.Proofs.YtnbijiopcgfmfaaGreat.Tev
/- Operations of numbers: the walk of array.reckon. -/
namespace Go.Proofs.YtnbijiopcgfmfaaGreat.Tev
open Go Go.RowKit Go.Proofs Go.Proofs.YtnbijiopcgfmfaaGreat.Q
set_option linter.unusedSectionVars false
set_option maxRecDepth 100000
set_option maxHeartbeats 0
set_option linter.unusedSimpArgs false
set_option linter.unusedVariables false
noncomputable abbrev rkB : Code := codeOf Tryz.f46
noncomputable abbrev rk0 : Code := sA rkB
noncomputable abbrev rk1 : Code := sA (sB rkB)
noncomputable abbrev rk2 : Code := sA (sB (sB rkB))
noncomputable abbrev rk3 : Code := sA (sB (sB (sB rkB)))
noncomputable abbrev rk4 : Code := sA (sB (sB (sB (sB rkB))))
noncomputable abbrev rk5 : Code := sA (sB (sB (sB (sB (sB rkB)))))
noncomputable abbrev rk6 : Code := sA (sB (sB (sB (sB (sB (sB rkB))))))
noncomputable abbrev rk7 : Code := sA (sB (sB (sB (sB (sB (sB (sB rkB)))))))
noncomputable abbrev rkOps : Array Oper := #[opAt 0 rk5, opAt 1 rk5, opAt 2 rk5, opAt 3 rk5, opAt 4 rk5, opAt 5 rk5, opAt 6 rk5, opAt 7 rk5, opAt 8 rk5]
theorem rkB_eq : rkB = .seq rk0 (.seq rk1 (.seq rk2 (.seq rk3 (.seq rk4 (.seq (.region 15 rkOps false) (.seq rk6 (.seq rk7 .ret))))))) := by kernel_rfl
theorem rkGood : GoodC Tryz.f46.ntmps rkB rkB := ⟨fun b hb => hb, by kernel_rfl⟩
theorem rkPieces : (∀ c ∈ [rk0, rk1, rk2, rk3, rk4], GoodC Tryz.f46.ntmps rkB c) ∧ ∀ c ∈ [rk6, rk7, Code.ret], GoodC Tryz.f46.ntmps rkB c := by
  have h := rkGood
  have h0 : GoodC Tryz.f46.ntmps rkB (.seq rk0 (.seq rk1 (.seq rk2 (.seq rk3 (.seq rk4 (.seq (.region 15 rkOps false) (.seq rk6 (.seq rk7 .ret)))))))) := by rw [← rkB_eq]; exact h
  obtain ⟨g0, h1⟩ := good_seq h0
  obtain ⟨g1, h2⟩ := good_seq h1
  obtain ⟨g2, h3⟩ := good_seq h2
  obtain ⟨g3, h4⟩ := good_seq h3
  obtain ⟨g4, h5⟩ := good_seq h4
  obtain ⟨g5, h6⟩ := good_seq h5
  obtain ⟨g6, h7⟩ := good_seq h6
  obtain ⟨g7, g8⟩ := good_seq h7
  refine ⟨fun c hc => ?_, fun c hc => ?_⟩
  · simp only [List.mem_cons, List.not_mem_nil, or_false] at hc
    rcases hc with rfl | rfl | rfl | rfl | rfl <;> assumption
  · simp only [List.mem_cons, List.not_mem_nil, or_false] at hc
    rcases hc with rfl | rfl | rfl <;> assumption
def rkG : Nat → FuncId
  | 0 => 72
  | 1 => 73
  | 2 => 74
  | _ => 75
def rkS : Nat → ByteArray
  | 0 => ⟨#[43]⟩
  | 1 => ⟨#[45]⟩
  | 2 => ⟨#[42]⟩
  | _ => ⟨#[47]⟩
def tyMk : Op → TypeId
  | .makeMap t _ => t
  | _ => 0
def keyT : Option TypeDesc → TypeId
  | some (.map k _) => k
  | _ => 0
def elT : Option TypeDesc → TypeId
  | some (.map _ e) => e
  | _ => 0
noncomputable abbrev rkT : TypeId := tyMk (opAt 0 rk5).op
theorem rkLit : Lit4 E0.P rkOps rkG rkS Tryz.f46.ntmps 75 76 77 78 9 0 where
  types := ⟨rkT, keyT (Tryz.prog.underlying rkT), elT (Tryz.prog.underlying rkT), by kernel_rfl, by kernel_rfl, _, _, _, _, _, _, _, _, _, rfl, by kernel_rfl, by kernel_rfl, by kernel_rfl, by kernel_rfl, by kernel_rfl, by kernel_rfl, by kernel_rfl, by kernel_rfl, by kernel_rfl, by kernel_rfl, by kernel_rfl, by kernel_rfl, by kernel_rfl, by kernel_rfl, by kernel_rfl, by kernel_rfl, by kernel_rfl, by kernel_rfl, by kernel_rfl, by kernel_rfl, by kernel_rfl, by kernel_rfl, by kernel_rfl, by kernel_rfl, by kernel_rfl, by kernel_rfl, by kernel_rfl⟩
  lt := ⟨Nat.le_of_ble_eq_true (by kernel_rfl), Nat.le_of_ble_eq_true (by kernel_rfl), Nat.le_of_ble_eq_true (by kernel_rfl), Nat.le_of_ble_eq_true (by kernel_rfl), Nat.le_of_ble_eq_true (by kernel_rfl)⟩
  ne := by decide
section
variable (op : ByteArray) (K ka a kb b a' b' : Int) (hK : mx ka kb = K) (hK1 : ¬ K = 1)
  (ha : CALL 70 [I K, Vl ka a] = some (.tup [Vl K a', I 0], [])) (hb : CALL 70 [I K, Vl kb b] = some (.tup [Vl K b', I 0], []))
include hK hK1 ha hb
theorem rk_walk (g : FuncId) (j i : Nat) (hg0 : g = rkG j) (o fl er : Int) (hg : CALL g [I (bytesQ K), I 0, I a', I b'] = some (.tup [I o, I fl, I er], []))
    (hf : Instr.findNow .string (.string op) (entsOf rkG rkS 4).toList 0 = some (some (i, .func (.func (rkG j)) #[] #[]))) :
    CallsR E0.P 46 [Str op, Vl ka a, Vl kb b] (.tup [Vl K o, I 0], []) := by
  have hy := a_bytes K
  have hlp := lim_loopOK (E := E0) (pr := pr0) mixed pr0_ok fn46 (show Tryz.f46.body = some rkB by kernel_rfl) ok46
  have hnd : nodupB ((loopsOf rkB).map firstId) = true := by kernel_rfl
  have H : ∃ SA : St, exec E0 (lim E0 pr0) 46 .nor ([rk0, rk1, rk2, rk3, rk4].map It.code) ⟨params 0 [Str op, Vl ka a, Vl kb b], [], 0⟩ = some (.nor, SA) ∧ get SA.t 0 = Str op ∧
      ∃ SB : St, exec E0 (lim E0 pr0) 46 .nor ([rk6, rk7, Code.ret].map It.code) (((((SA.put 75 .junk).put 76 .junk).put 77 .junk).put 78 (.fn g [])).put 9 (.fn g [])) = some (.ret, SB) ∧
        retT E0.P Tryz.f46.results.toList Tryz.f46.resultTypes.toList SB = some (.tup [Vl K o, I 0], []) := by
    apply Exists.intro
    apply And.intro
    · simp (config := { maxSteps := 1000000 }) (disch := omega) only [push_cast, ↓reduceIte, Nat.reduceEqDiff, Nat.reduceAdd, Nat.reduceLT, Nat.reduceLeDiff, Nat.reduceBEq, Nat.reduceMul, Nat.reduceSub, Int.reduceToNat, Int.reduceEq, Int.reduceLT, Int.reduceLE, Int.reduceNeg, Int.reduceAdd, Int.reduceSub, Int.reduceMul, Tryz.f46, kr46, ty3, ty9, ty34, ty38, ty102, ty103, rk0, rk1, rk2, rk3, rk4, rkB, codeOf, Option.getD_some, List.map_cons, List.map_nil, sA, sB, hK, hK1, ha, hb, ne_eq]
      rfl
    · refine ⟨rfl, ?_⟩
      apply Exists.intro
      apply And.intro
      · simp (config := { maxSteps := 1000000 }) (disch := omega) only [push_cast, ↓reduceIte, Nat.reduceEqDiff, Nat.reduceAdd, Nat.reduceLT, Nat.reduceLeDiff, Nat.reduceBEq, Nat.reduceMul, Nat.reduceSub, Int.reduceToNat, Int.reduceEq, Int.reduceLT, Int.reduceLE, Int.reduceNeg, Int.reduceAdd, Int.reduceSub, Int.reduceMul, Tryz.f46, kr46, ty3, ty9, ty34, ty38, ty102, ty103, rk6, rk7, rkB, codeOf, Option.getD_some, List.map_cons, List.map_nil, sA, sB, hK, hK1, hy, hg, ne_eq]
        rfl
      · simp (config := { maxSteps := 1000000 }) (disch := omega) only [push_cast, ↓reduceIte, Nat.reduceEqDiff, Nat.reduceAdd, Nat.reduceLT, Nat.reduceLeDiff, Nat.reduceBEq, Nat.reduceMul, Nat.reduceSub, Int.reduceToNat, Int.reduceEq, Int.reduceLT, Int.reduceLE, Int.reduceNeg, Int.reduceAdd, Int.reduceSub, Int.reduceMul, Tryz.f46, kr46, ty3, ty9, ty34, ty38, ty102, ty103, retT]
  subst hg0
  obtain ⟨SA, hA, h0, SB, hB, hR⟩ := H
  refine walk_fun (E := E0) fn46 (by kernel_rfl) (show Tryz.f46.body = some rkB by kernel_rfl) (Nat.le_of_ble_eq_true (by kernel_rfl)) fun w F => ?_
  rw [show ([rkB] : List Code) = [Code.seq rk0 (.seq rk1 (.seq rk2 (.seq rk3 (.seq rk4 (.seq (.region 15 rkOps false) (.seq rk6 (.seq rk7 .ret)))))))] from congrArg (fun c => [c]) rkB_eq]
  refine walk_assoc [] (walk_assoc [rk0] (walk_assoc [rk0, rk1] (walk_assoc [rk0, rk1, rk2] (walk_assoc [rk0, rk1, rk2, rk3] (walk_assoc [rk0, rk1, rk2, rk3, rk4] (walk_assoc [rk0, rk1, rk2, rk3, rk4, .region 15 rkOps false] (walk_assoc [rk0, rk1, rk2, rk3, rk4, .region 15 rkOps false, rk6] ?_)))))))
  refine walk_list (l := .region 15 rkOps false :: ([rk6, rk7, Code.ret] ++ [])) mixed (lim_sound mixed pr0_ok) hlp hnd [rk0, rk1, rk2, rk3, rk4] rkPieces.1 hA ?_
  refine walk_lit rkLit h0 (by kernel_rfl) (by kernel_rfl) (by kernel_rfl) (by kernel_rfl) hf ?_
  exact walk_list (l := []) mixed (lim_sound mixed pr0_ok) hlp hnd [rk6, rk7, Code.ret] rkPieces.2 hB ⟨.inr rfl, hR⟩
end
end Go.Proofs.YtnbijiopcgfmfaaGreat.Tev
/- Operations of numbers, told in a layer of their own. -/
namespace Go.Proofs.YtnbijiopcgfmfaaGreat.Tev
open Go Go.RowKit Go.Proofs Go.Proofs.YtnbijiopcgfmfaaGreat.Q
set_option linter.unusedSectionVars false
set_option maxRecDepth 100000
set_option maxHeartbeats 0
set_option linter.unusedSimpArgs false
set_option linter.unusedVariables false
theorem mx_num {a b : Int} (ha : numQ a) (hb : numQ b) : numQ (mx a b) ∧ a ≤ mx a b ∧ b ≤ mx a b := by
  unfold mx numQ at *
  split <;> omega
theorem f_CompareN {k p w : Int} (hk : okK k p w) (a b : Int) : ∃ o f, CALL 76 [I k, I a, I b] = some (.tup [I o, I f], []) := two_of (f_Compare hk a b)
theorem bytes_ok {K : Int} (h : numQ K) (h1 : ¬ K = 1) : ∃ p w, okK (bytesQ K) p w := by
  have : K = 3 ∨ K = 4 := by unfold numQ at *; omega
  rcases this with rfl | rfl
  · exact ⟨24, 8, .inl ⟨rfl, rfl, rfl⟩⟩
  · exact ⟨53, 11, .inr ⟨rfl, rfl, rfl⟩⟩
theorem a_compared (ka a kb b : Int) (hka : numQ ka) (hkb : numQ kb) : ∃ n, CALL 48 [Vl ka a, Vl kb b] = some (I n, []) := by
  obtain ⟨hm, m1, m2⟩ := mx_num hka hkb
  obtain ⟨a', ha⟩ := a_to (mx ka kb) ka a hm hka m1
  obtain ⟨b', hb⟩ := a_to (mx ka kb) kb b hm hkb m2
  generalize hK : mx ka kb = K at *
  by_cases c : K = 1
  · subst c
    refine ⟨?_, ?_⟩
    rotate_left
    · refine lim_run (fn := Tryz.f48) fn48 rfl body48 (Nat.le_of_ble_eq_true rfl) ok48 ?_
      simp (config := { maxSteps := 1000000 }) (disch := omega) only [push_cast, ↓reduceIte, Nat.reduceEqDiff, Nat.reduceAdd, Nat.reduceLT, Nat.reduceLeDiff, Nat.reduceBEq, Nat.reduceMul, Nat.reduceSub, Int.reduceToNat, Int.reduceEq, Int.reduceLT, Int.reduceLE, Int.reduceNeg, Int.reduceAdd, Int.reduceSub, Int.reduceMul, Tryz.f48, kr48, ty3, ty38, hK, ha, hb]
      rfl
  · obtain ⟨p, w, hk⟩ := bytes_ok hm c
    obtain ⟨o, f, hc⟩ := f_CompareN hk a' b'
    have hy := a_bytes K
    refine ⟨o, ?_⟩
    refine lim_run (fn := Tryz.f48) fn48 rfl body48 (Nat.le_of_ble_eq_true rfl) ok48 ?_
    simp (config := { maxSteps := 1000000 }) (disch := omega) only [push_cast, ↓reduceIte, Nat.reduceEqDiff, Nat.reduceAdd, Nat.reduceLT, Nat.reduceLeDiff, Nat.reduceBEq, Nat.reduceMul, Nat.reduceSub, Int.reduceToNat, Int.reduceEq, Int.reduceLT, Int.reduceLE, Int.reduceNeg, Int.reduceAdd, Int.reduceSub, Int.reduceMul, Tryz.f48, kr48, ty3, ty38, hK, ha, hb, hy, hc, c]
def qb (r : R) : Prop := ∃ b, r = (B b, [])
theorem qb_mk (b : Bool) : qb (.c (.v (.bool b)), []) ↔ True := iff_true_intro ⟨_, rfl⟩
theorem a_holds (op : ByteArray) (n : Int) : Ex1 qb (CALL 47 [Str op, I n]) := by
  by_cases h1 : op = ⟨#[61, 61]⟩
  · refine ex_run (fun r => lim_run (fn := Tryz.f47) fn47 rfl body47 (Nat.le_of_ble_eq_true rfl) ok47) ?_
    simp (config := { maxSteps := 1000000 }) (disch := omega) only [push_cast, ↓reduceIte, Nat.reduceEqDiff, Nat.reduceAdd, Nat.reduceLT, Nat.reduceLeDiff, Nat.reduceBEq, Nat.reduceMul, Nat.reduceSub, Int.reduceToNat, Int.reduceEq, Int.reduceLT, Int.reduceLE, Int.reduceNeg, Int.reduceAdd, Int.reduceSub, Int.reduceMul, Tryz.f47, kr47, ty4, tb4, h1, Ex_ite, Ex_some, qb_mk, implies_true]
  by_cases h2 : op = ⟨#[47, 61]⟩
  · refine ex_run (fun r => lim_run (fn := Tryz.f47) fn47 rfl body47 (Nat.le_of_ble_eq_true rfl) ok47) ?_
    simp (config := { maxSteps := 1000000 }) (disch := omega) only [push_cast, ↓reduceIte, Nat.reduceEqDiff, Nat.reduceAdd, Nat.reduceLT, Nat.reduceLeDiff, Nat.reduceBEq, Nat.reduceMul, Nat.reduceSub, Int.reduceToNat, Int.reduceEq, Int.reduceLT, Int.reduceLE, Int.reduceNeg, Int.reduceAdd, Int.reduceSub, Int.reduceMul, Tryz.f47, kr47, ty4, tb4, h1, h2, Ex_ite, Ex_some, qb_mk, implies_true]
  by_cases h3 : op = ⟨#[60]⟩
  · refine ex_run (fun r => lim_run (fn := Tryz.f47) fn47 rfl body47 (Nat.le_of_ble_eq_true rfl) ok47) ?_
    simp (config := { maxSteps := 1000000 }) (disch := omega) only [push_cast, ↓reduceIte, Nat.reduceEqDiff, Nat.reduceAdd, Nat.reduceLT, Nat.reduceLeDiff, Nat.reduceBEq, Nat.reduceMul, Nat.reduceSub, Int.reduceToNat, Int.reduceEq, Int.reduceLT, Int.reduceLE, Int.reduceNeg, Int.reduceAdd, Int.reduceSub, Int.reduceMul, Tryz.f47, kr47, ty4, tb4, h1, h2, h3, Ex_ite, Ex_some, qb_mk, implies_true]
  by_cases h4 : op = ⟨#[60, 61]⟩
  · by_cases c : n = -1
    · refine ex_run (fun r => lim_run (fn := Tryz.f47) fn47 rfl body47 (Nat.le_of_ble_eq_true rfl) ok47) ?_
      simp (config := { maxSteps := 1000000 }) (disch := omega) only [push_cast, ↓reduceIte, Nat.reduceEqDiff, Nat.reduceAdd, Nat.reduceLT, Nat.reduceLeDiff, Nat.reduceBEq, Nat.reduceMul, Nat.reduceSub, Int.reduceToNat, Int.reduceEq, Int.reduceLT, Int.reduceLE, Int.reduceNeg, Int.reduceAdd, Int.reduceSub, Int.reduceMul, Tryz.f47, kr47, ty4, tb4, h1, h2, h3, h4, c, Ex_ite, Ex_some, qb_mk, implies_true]
    · refine ex_run (fun r => lim_run (fn := Tryz.f47) fn47 rfl body47 (Nat.le_of_ble_eq_true rfl) ok47) ?_
      simp (config := { maxSteps := 1000000 }) (disch := omega) only [push_cast, ↓reduceIte, Nat.reduceEqDiff, Nat.reduceAdd, Nat.reduceLT, Nat.reduceLeDiff, Nat.reduceBEq, Nat.reduceMul, Nat.reduceSub, Int.reduceToNat, Int.reduceEq, Int.reduceLT, Int.reduceLE, Int.reduceNeg, Int.reduceAdd, Int.reduceSub, Int.reduceMul, Tryz.f47, kr47, ty4, tb4, h1, h2, h3, h4, c, Ex_ite, Ex_some, qb_mk, implies_true]
  by_cases h5 : op = ⟨#[62]⟩
  · refine ex_run (fun r => lim_run (fn := Tryz.f47) fn47 rfl body47 (Nat.le_of_ble_eq_true rfl) ok47) ?_
    simp (config := { maxSteps := 1000000 }) (disch := omega) only [push_cast, ↓reduceIte, Nat.reduceEqDiff, Nat.reduceAdd, Nat.reduceLT, Nat.reduceLeDiff, Nat.reduceBEq, Nat.reduceMul, Nat.reduceSub, Int.reduceToNat, Int.reduceEq, Int.reduceLT, Int.reduceLE, Int.reduceNeg, Int.reduceAdd, Int.reduceSub, Int.reduceMul, Tryz.f47, kr47, ty4, tb4, h1, h2, h3, h4, h5, Ex_ite, Ex_some, qb_mk, implies_true]
  · by_cases c : n = 0
    · refine ex_run (fun r => lim_run (fn := Tryz.f47) fn47 rfl body47 (Nat.le_of_ble_eq_true rfl) ok47) ?_
      simp (config := { maxSteps := 1000000 }) (disch := omega) only [push_cast, ↓reduceIte, Nat.reduceEqDiff, Nat.reduceAdd, Nat.reduceLT, Nat.reduceLeDiff, Nat.reduceBEq, Nat.reduceMul, Nat.reduceSub, Int.reduceToNat, Int.reduceEq, Int.reduceLT, Int.reduceLE, Int.reduceNeg, Int.reduceAdd, Int.reduceSub, Int.reduceMul, Tryz.f47, kr47, ty4, tb4, h1, h2, h3, h4, h5, c, Ex_ite, Ex_some, qb_mk, implies_true]
    · refine ex_run (fun r => lim_run (fn := Tryz.f47) fn47 rfl body47 (Nat.le_of_ble_eq_true rfl) ok47) ?_
      simp (config := { maxSteps := 1000000 }) (disch := omega) only [push_cast, ↓reduceIte, Nat.reduceEqDiff, Nat.reduceAdd, Nat.reduceLT, Nat.reduceLeDiff, Nat.reduceBEq, Nat.reduceMul, Nat.reduceSub, Int.reduceToNat, Int.reduceEq, Int.reduceLT, Int.reduceLE, Int.reduceNeg, Int.reduceAdd, Int.reduceSub, Int.reduceMul, Tryz.f47, kr47, ty4, tb4, h1, h2, h3, h4, h5, c, Ex_ite, Ex_some, qb_mk, implies_true]
theorem calls_of {f : FuncId} {xs : List T} {r : R} (h : CALL f xs = some r) {fn : Func} (hf : E0.P.funcs[f]? = some fn) (hb : fn.body.isNone = false) : CallsR E0.P f xs r := by
  rcases lim_sound mixed pr0_ok f xs r h with h | ⟨⟨fn', h1, h2⟩, _⟩
  · exact h
  · rw [hf] at h1
    obtain rfl := Option.some.inj h1
    rw [hb] at h2; cases h2
theorem ari_cases {op : ByteArray} (h : op ∈ ariL) : op = ⟨#[43]⟩ ∨ op = ⟨#[45]⟩ ∨ op = ⟨#[42]⟩ ∨ op = ⟨#[47]⟩ := by
  simpa only [ariL, List.mem_cons, List.not_mem_nil, or_false, sAdd, sSub, sMul, sDiv] using h
theorem int_of (n : Int) : ∃ k m e, CALL 71 [I n] = some (.tup [Vl k m, I e], []) ∧ (e = 0 → k = 1) := by
  obtain ⟨r, h1, k, m, e, rfl, h2⟩ := a_integer n
  exact ⟨k, m, e, h1, h2⟩
theorem rk_int (op : ByteArray) (hop : op ∈ ariL) (a b : Int) : Ex1 (qv 1) (CALL 46 [Str op, Vl 1 a, Vl 1 b]) := by
  have ha : CALL 70 [I 1, Vl 1 a] = some (.tup [Vl 1 a, I 0], []) := by
    refine lim_run (fn := Tryz.f70) fn70 rfl body70 (Nat.le_of_ble_eq_true rfl) ok70 ?_
    simp (config := { maxSteps := 1000000 }) (disch := omega) only [push_cast, ↓reduceIte, Nat.reduceEqDiff, Nat.reduceAdd, Nat.reduceLT, Nat.reduceLeDiff, Nat.reduceBEq, Nat.reduceMul, Nat.reduceSub, Int.reduceToNat, Int.reduceEq, Int.reduceLT, Int.reduceLE, Int.reduceNeg, Int.reduceAdd, Int.reduceSub, Int.reduceMul, Tryz.f70, kr70, ty3, ty34, ty38]
  have hb : CALL 70 [I 1, Vl 1 b] = some (.tup [Vl 1 b, I 0], []) := by
    refine lim_run (fn := Tryz.f70) fn70 rfl body70 (Nat.le_of_ble_eq_true rfl) ok70 ?_
    simp (config := { maxSteps := 1000000 }) (disch := omega) only [push_cast, ↓reduceIte, Nat.reduceEqDiff, Nat.reduceAdd, Nat.reduceLT, Nat.reduceLeDiff, Nat.reduceBEq, Nat.reduceMul, Nat.reduceSub, Int.reduceToNat, Int.reduceEq, Int.reduceLT, Int.reduceLE, Int.reduceNeg, Int.reduceAdd, Int.reduceSub, Int.reduceMul, Tryz.f70, kr70, ty3, ty34, ty38]
  have hK : mx 1 1 = 1 := rfl
  have d1 : ¬ (⟨#[45]⟩ : ByteArray) = ⟨#[43]⟩ := by decide
  have d2 : ¬ (⟨#[42]⟩ : ByteArray) = ⟨#[43]⟩ := by decide
  have d3 : ¬ (⟨#[42]⟩ : ByteArray) = ⟨#[45]⟩ := by decide
  have d4 : ¬ (⟨#[47]⟩ : ByteArray) = ⟨#[43]⟩ := by decide
  have d5 : ¬ (⟨#[47]⟩ : ByteArray) = ⟨#[45]⟩ := by decide
  have d6 : ¬ (⟨#[47]⟩ : ByteArray) = ⟨#[42]⟩ := by decide
  rcases ari_cases hop with rfl | rfl | rfl | rfl
  · obtain ⟨k, m, e, hi, he⟩ := int_of (IntKind.i64.wrap (a + b))
    refine ex_run (fun r => lim_run (fn := Tryz.f46) fn46 rfl body46 (Nat.le_of_ble_eq_true rfl) ok46) ?_
    simp (config := { maxSteps := 1000000 }) (disch := omega) only [push_cast, ↓reduceIte, Nat.reduceEqDiff, Nat.reduceAdd, Nat.reduceLT, Nat.reduceLeDiff, Nat.reduceBEq, Nat.reduceMul, Nat.reduceSub, Int.reduceToNat, Int.reduceEq, Int.reduceLT, Int.reduceLE, Int.reduceNeg, Int.reduceAdd, Int.reduceSub, Int.reduceMul, Tryz.f46, kr46, ty3, ty9, ty34, ty38, ty102, ty103, hK, ha, hb, d1, d2, d3, d4, d5, d6, hi, Ex_ite, Ex_some, qv_mk]
    exact he
  · obtain ⟨k, m, e, hi, he⟩ := int_of (IntKind.i64.wrap (a - b))
    refine ex_run (fun r => lim_run (fn := Tryz.f46) fn46 rfl body46 (Nat.le_of_ble_eq_true rfl) ok46) ?_
    simp (config := { maxSteps := 1000000 }) (disch := omega) only [push_cast, ↓reduceIte, Nat.reduceEqDiff, Nat.reduceAdd, Nat.reduceLT, Nat.reduceLeDiff, Nat.reduceBEq, Nat.reduceMul, Nat.reduceSub, Int.reduceToNat, Int.reduceEq, Int.reduceLT, Int.reduceLE, Int.reduceNeg, Int.reduceAdd, Int.reduceSub, Int.reduceMul, Tryz.f46, kr46, ty3, ty9, ty34, ty38, ty102, ty103, hK, ha, hb, d1, d2, d3, d4, d5, d6, hi, Ex_ite, Ex_some, qv_mk]
    exact he
  · obtain ⟨k, m, e, hi, he⟩ := int_of (IntKind.i64.wrap (a * b))
    refine ex_run (fun r => lim_run (fn := Tryz.f46) fn46 rfl body46 (Nat.le_of_ble_eq_true rfl) ok46) ?_
    simp (config := { maxSteps := 1000000 }) (disch := omega) only [push_cast, ↓reduceIte, Nat.reduceEqDiff, Nat.reduceAdd, Nat.reduceLT, Nat.reduceLeDiff, Nat.reduceBEq, Nat.reduceMul, Nat.reduceSub, Int.reduceToNat, Int.reduceEq, Int.reduceLT, Int.reduceLE, Int.reduceNeg, Int.reduceAdd, Int.reduceSub, Int.reduceMul, Tryz.f46, kr46, ty3, ty9, ty34, ty38, ty102, ty103, hK, ha, hb, d1, d2, d3, d4, d5, d6, hi, Ex_ite, Ex_some, qv_mk]
    exact he
  · by_cases c : b = 0
    · subst c
      refine ex_run (fun r => lim_run (fn := Tryz.f46) fn46 rfl body46 (Nat.le_of_ble_eq_true rfl) ok46) ?_
      simp (config := { maxSteps := 1000000 }) (disch := omega) only [push_cast, ↓reduceIte, Nat.reduceEqDiff, Nat.reduceAdd, Nat.reduceLT, Nat.reduceLeDiff, Nat.reduceBEq, Nat.reduceMul, Nat.reduceSub, Int.reduceToNat, Int.reduceEq, Int.reduceLT, Int.reduceLE, Int.reduceNeg, Int.reduceAdd, Int.reduceSub, Int.reduceMul, Tryz.f46, kr46, ty3, ty9, ty34, ty38, ty102, ty103, hK, ha, hb, d1, d2, d3, d4, d5, d6, Ex_ite, Ex_some, qv_mk, false_implies]
    · obtain ⟨k, m, e, hi, he⟩ := int_of (IntKind.i64.wrap (a.tdiv b))
      refine ex_run (fun r => lim_run (fn := Tryz.f46) fn46 rfl body46 (Nat.le_of_ble_eq_true rfl) ok46) ?_
      simp (config := { maxSteps := 1000000 }) (disch := omega) only [push_cast, ↓reduceIte, Nat.reduceEqDiff, Nat.reduceAdd, Nat.reduceLT, Nat.reduceLeDiff, Nat.reduceBEq, Nat.reduceMul, Nat.reduceSub, Int.reduceToNat, Int.reduceEq, Int.reduceLT, Int.reduceLE, Int.reduceNeg, Int.reduceAdd, Int.reduceSub, Int.reduceMul, Tryz.f46, kr46, ty3, ty9, ty34, ty38, ty102, ty103, hK, ha, hb, d1, d2, d3, d4, d5, d6, hi, c, bin_quo, Ex_ite, Ex_some, qv_mk]
      exact he
/-- What a call of reckon is. -/
theorem rk_all (op : ByteArray) (hop : op ∈ ariL) (ka a kb b : Int) (hka : numQ ka) (hkb : numQ kb) : ∃ r, CallsR E0.P 46 [Str op, Vl ka a, Vl kb b] r ∧ qv (mx ka kb) r ∧ ∀ r0, ka = 1 → CALL 46 [Str op, Vl ka a, Vl kb b] = some r0 → kb = 1 → r0 = r := by
  by_cases c : mx ka kb = 1
  · have e1 : ka = 1 := by unfold mx numQ at *; split at c <;> omega
    have e2 : kb = 1 := by unfold mx numQ at *; split at c <;> omega
    subst e1 e2
    obtain ⟨r, h1, h2⟩ := rk_int op hop a b
    exact ⟨r, calls_of h1 fn46 (by kernel_rfl), h2, fun r0 _ h _ => Option.some.inj (h.symm.trans h1)⟩
  · obtain ⟨hm, m1, m2⟩ := mx_num hka hkb
    obtain ⟨a', ha⟩ := a_to (mx ka kb) ka a hm hka m1
    obtain ⟨b', hb⟩ := a_to (mx ka kb) kb b hm hkb m2
    obtain ⟨p, w, hk⟩ := bytes_ok hm c
    have hno : ∀ (r r0 : R), ka = 1 → CALL 46 [Str op, Vl ka a, Vl kb b] = some r0 → kb = 1 → r0 = r := fun r r0 q1 _ q2 => absurd (by rw [q1, q2]; rfl) c
    rcases ari_cases hop with rfl | rfl | rfl | rfl
    · obtain ⟨o, f, e, hg⟩ := three_of (f_Add hk a' b')
      exact ⟨_, rk_walk _ _ ka a kb b a' b' rfl c ha hb _ 0 0 rfl o f e hg (by kernel_rfl), ⟨_, _, _, rfl, fun _ => rfl⟩, hno _⟩
    · obtain ⟨o, f, e, hg⟩ := three_of (f_Sub hk a' b')
      exact ⟨_, rk_walk _ _ ka a kb b a' b' rfl c ha hb _ 1 1 rfl o f e hg (by kernel_rfl), ⟨_, _, _, rfl, fun _ => rfl⟩, hno _⟩
    · obtain ⟨o, f, e, hg⟩ := three_of (f_Mul hk a' b')
      exact ⟨_, rk_walk _ _ ka a kb b a' b' rfl c ha hb _ 2 2 rfl o f e hg (by kernel_rfl), ⟨_, _, _, rfl, fun _ => rfl⟩, hno _⟩
    · obtain ⟨o, f, e, hg⟩ := three_of (f_Div hk a' b')
      exact ⟨_, rk_walk _ _ ka a kb b a' b' rfl c ha hb _ 3 3 rfl o f e hg (by kernel_rfl), ⟨_, _, _, rfl, fun _ => rfl⟩, hno _⟩
/-- The functions that are told later. -/
def NEW : List Nat := [23, 22, 21, 7, 8, 85, 65, 39, 17, 5, 3]
def Sp1 (f : FuncId) (xs : List T) (r : R) : Prop := f = 46 ∧ CallsR E0.P f xs r ∧ ∀ op ka a kb b, xs = [Str op, Vl ka a, Vl kb b] → qv (mx ka kb) r ∧ ∀ r0, ka = 1 → CALL f xs = some r0 → kb = 1 → r0 = r
noncomputable def pr1 : FuncId → List T → Option R := relP Sp1 (butP NEW CALL)
theorem pr1_ok : CallOK E0.P pr1 := relP_ok (fun f xs r h => h.2.1) (butP_ok (lim_sound mixed pr0_ok))
noncomputable abbrev CALL1 := (lim E0 pr1).call
theorem Sp1_not {f : FuncId} (h : f ≠ 46) (xs : List T) (r : R) : ¬ Sp1 f xs r := fun q => h q.1
theorem pr1_none {f : FuncId} (h : f ≠ 46 ∧ f ∈ NEW) (xs : List T) : pr1 f xs = none := (relP_none (Sp1_not h.1 xs)).trans (if_pos h.2)
theorem old1 {f : FuncId} {xs : List T} {r : R} (h : f ≠ 46 ∧ f ∉ NEW) (hc : CALL f xs = some r) : CALL1 f xs = some r :=
  lim_pr ((relP_none (Sp1_not h.1 xs)).trans ((if_neg h.2).trans hc))
theorem s_rk (op : ByteArray) (hop : op ∈ ariL) (ka a kb b : Int) (hka : numQ ka) (hkb : numQ kb) : ∃ r, CALL1 46 [Str op, Vl ka a, Vl kb b] = some r ∧ qv (mx ka kb) r ∧ ∀ r0, ka = 1 → CALL 46 [Str op, Vl ka a, Vl kb b] = some r0 → kb = 1 → r0 = r := by
  obtain ⟨r, h1, h2⟩ := rk_all op hop ka a kb b hka hkb
  have hx : ∃ r, Sp1 46 [Str op, Vl ka a, Vl kb b] r := ⟨r, rfl, h1, fun op' ka' a' kb' b' e => by
    simp only [List.cons.injEq, T.c.injEq, C.v.injEq, Value.string.injEq, T.agg.injEq, Value.int.injEq, true_and, and_true] at e
    obtain ⟨_, ⟨rfl, _⟩, rfl, _⟩ := e
    exact h2⟩
  refine ⟨Classical.choose hx, ?_, (Classical.choose_spec hx).2.2 op ka a kb b rfl⟩
  refine lim_pr ?_
  show relP Sp1 _ _ _ = _
  unfold relP
  rw [dif_pos hx]
theorem s_reckon (op : ByteArray) (hop : op ∈ ariL) (ka a kb b : Int) (hka : numQ ka) (hkb : numQ kb) : ∃ k n e, CALL1 46 [Str op, Vl ka a, Vl kb b] = some (.tup [Vl k n, I e], []) ∧ (e = 0 → k = mx ka kb) := by
  obtain ⟨r, h1, ⟨k, n, e, rfl, h4⟩, _⟩ := s_rk op hop ka a kb b hka hkb
  exact ⟨k, n, e, h1, h4⟩
theorem s_reckonI (op : ByteArray) (hop : op ∈ ariL) (a b : Int) {r0 : R} (h : CALL 46 [Str op, Vl 1 a, Vl 1 b] = some r0) : CALL1 46 [Str op, Vl 1 a, Vl 1 b] = some r0 := by
  obtain ⟨r, h1, _, h3⟩ := s_rk op hop 1 a 1 b (.inl rfl) (.inl rfl)
  rw [h1, h3 r0 rfl h rfl]
end Go.Proofs.YtnbijiopcgfmfaaGreat.Tev
/- One operation of two values. -/
namespace Go.Proofs.YtnbijiopcgfmfaaGreat.Tev
open Go Go.RowKit Go.Proofs Go.Proofs.YtnbijiopcgfmfaaGreat.Q
set_option linter.unusedSectionVars false
set_option maxRecDepth 100000
set_option maxHeartbeats 0
set_option linter.unusedSimpArgs false
set_option linter.unusedVariables false
theorem s_logical (b : Bool) : CALL1 45 [B b] = some (Vl 2 (if b = true then 1 else 0), []) := old1 (by decide) (a_logical b)
theorem s_ari (op : ByteArray) (hop : op ∈ ariL) (ka a kb b : Int) (hka : numQ ka) (hkb : numQ kb) : Ex1 (qv (mx ka kb)) (CALL1 23 [Str op, Vl ka a, Vl kb b]) := by
  obtain ⟨k, n, e, hr, he⟩ := s_reckon op hop ka a kb b hka hkb
  rcases ari_cases hop with rfl | rfl | rfl | rfl
  · skip
    have d0 : ¬ (⟨#[43]⟩ : ByteArray) = ⟨#[46, 97, 110, 100, 46]⟩ := by decide
    have d1 : ¬ (⟨#[43]⟩ : ByteArray) = ⟨#[46, 111, 114, 46]⟩ := by decide
    have d3 : ¬ (⟨#[43]⟩ : ByteArray) = ⟨#[45]⟩ := by decide
    have d4 : ¬ (⟨#[43]⟩ : ByteArray) = ⟨#[42]⟩ := by decide
    have d5 : ¬ (⟨#[43]⟩ : ByteArray) = ⟨#[47]⟩ := by decide
    refine ex_run (fun r => lim_run (fn := Tryz.f23) fn23 (pr1_none (by decide) _) body23 (Nat.le_of_ble_eq_true rfl) ok23) ?_
    simp (config := { maxSteps := 1000000 }) (disch := omega) only [push_cast, ↓reduceIte, Nat.reduceEqDiff, Nat.reduceAdd, Nat.reduceLT, Nat.reduceLeDiff, Nat.reduceBEq, Nat.reduceMul, Nat.reduceSub, Int.reduceToNat, Int.reduceEq, Int.reduceLT, Int.reduceLE, Int.reduceNeg, Int.reduceAdd, Int.reduceSub, Int.reduceMul, Tryz.f23, kr23, ty3, ty34, ty38, hr, d0, d1, d3, d4, d5, Ex_ite, Ex_some, qv_mk]
    exact he
  · skip
    have d0 : ¬ (⟨#[45]⟩ : ByteArray) = ⟨#[46, 97, 110, 100, 46]⟩ := by decide
    have d1 : ¬ (⟨#[45]⟩ : ByteArray) = ⟨#[46, 111, 114, 46]⟩ := by decide
    have d2 : ¬ (⟨#[45]⟩ : ByteArray) = ⟨#[43]⟩ := by decide
    have d4 : ¬ (⟨#[45]⟩ : ByteArray) = ⟨#[42]⟩ := by decide
    have d5 : ¬ (⟨#[45]⟩ : ByteArray) = ⟨#[47]⟩ := by decide
    refine ex_run (fun r => lim_run (fn := Tryz.f23) fn23 (pr1_none (by decide) _) body23 (Nat.le_of_ble_eq_true rfl) ok23) ?_
    simp (config := { maxSteps := 1000000 }) (disch := omega) only [push_cast, ↓reduceIte, Nat.reduceEqDiff, Nat.reduceAdd, Nat.reduceLT, Nat.reduceLeDiff, Nat.reduceBEq, Nat.reduceMul, Nat.reduceSub, Int.reduceToNat, Int.reduceEq, Int.reduceLT, Int.reduceLE, Int.reduceNeg, Int.reduceAdd, Int.reduceSub, Int.reduceMul, Tryz.f23, kr23, ty3, ty34, ty38, hr, d0, d1, d2, d4, d5, Ex_ite, Ex_some, qv_mk]
    exact he
  · skip
    have d0 : ¬ (⟨#[42]⟩ : ByteArray) = ⟨#[46, 97, 110, 100, 46]⟩ := by decide
    have d1 : ¬ (⟨#[42]⟩ : ByteArray) = ⟨#[46, 111, 114, 46]⟩ := by decide
    have d2 : ¬ (⟨#[42]⟩ : ByteArray) = ⟨#[43]⟩ := by decide
    have d3 : ¬ (⟨#[42]⟩ : ByteArray) = ⟨#[45]⟩ := by decide
    have d5 : ¬ (⟨#[42]⟩ : ByteArray) = ⟨#[47]⟩ := by decide
    refine ex_run (fun r => lim_run (fn := Tryz.f23) fn23 (pr1_none (by decide) _) body23 (Nat.le_of_ble_eq_true rfl) ok23) ?_
    simp (config := { maxSteps := 1000000 }) (disch := omega) only [push_cast, ↓reduceIte, Nat.reduceEqDiff, Nat.reduceAdd, Nat.reduceLT, Nat.reduceLeDiff, Nat.reduceBEq, Nat.reduceMul, Nat.reduceSub, Int.reduceToNat, Int.reduceEq, Int.reduceLT, Int.reduceLE, Int.reduceNeg, Int.reduceAdd, Int.reduceSub, Int.reduceMul, Tryz.f23, kr23, ty3, ty34, ty38, hr, d0, d1, d2, d3, d5, Ex_ite, Ex_some, qv_mk]
    exact he
  · skip
    have d0 : ¬ (⟨#[47]⟩ : ByteArray) = ⟨#[46, 97, 110, 100, 46]⟩ := by decide
    have d1 : ¬ (⟨#[47]⟩ : ByteArray) = ⟨#[46, 111, 114, 46]⟩ := by decide
    have d2 : ¬ (⟨#[47]⟩ : ByteArray) = ⟨#[43]⟩ := by decide
    have d3 : ¬ (⟨#[47]⟩ : ByteArray) = ⟨#[45]⟩ := by decide
    have d4 : ¬ (⟨#[47]⟩ : ByteArray) = ⟨#[42]⟩ := by decide
    refine ex_run (fun r => lim_run (fn := Tryz.f23) fn23 (pr1_none (by decide) _) body23 (Nat.le_of_ble_eq_true rfl) ok23) ?_
    simp (config := { maxSteps := 1000000 }) (disch := omega) only [push_cast, ↓reduceIte, Nat.reduceEqDiff, Nat.reduceAdd, Nat.reduceLT, Nat.reduceLeDiff, Nat.reduceBEq, Nat.reduceMul, Nat.reduceSub, Int.reduceToNat, Int.reduceEq, Int.reduceLT, Int.reduceLE, Int.reduceNeg, Int.reduceAdd, Int.reduceSub, Int.reduceMul, Tryz.f23, kr23, ty3, ty34, ty38, hr, d0, d1, d2, d3, d4, Ex_ite, Ex_some, qv_mk]
    exact he
theorem cmp_cases {op : ByteArray} (h : op ∈ cmpL) : op = ⟨#[61, 61]⟩ ∨ op = ⟨#[47, 61]⟩ ∨ op = ⟨#[60]⟩ ∨ op = ⟨#[60, 61]⟩ ∨ op = ⟨#[62]⟩ ∨ op = ⟨#[62, 61]⟩ := by
  simpa only [cmpL, List.mem_cons, List.not_mem_nil, or_false, sEq, sNe, sLt, sLe, sGt, sGe] using h
theorem log_cases {op : ByteArray} (h : op ∈ logL) : op = ⟨#[61, 61]⟩ ∨ op = ⟨#[47, 61]⟩ ∨ op = ⟨#[46, 97, 110, 100, 46]⟩ ∨ op = ⟨#[46, 111, 114, 46]⟩ := by
  simpa only [logL, List.mem_cons, List.not_mem_nil, or_false, sEq, sNe, sAnd, sOr] using h
theorem s_cmp (op : ByteArray) (hop : op ∈ cmpL) (ka a kb b : Int) (hka : numQ ka) (hkb : numQ kb) : Ex1 (qv 2) (CALL1 23 [Str op, Vl ka a, Vl kb b]) := by
  obtain ⟨n, hc⟩ := a_compared ka a kb b hka hkb
  have hc := old1 (by decide) hc
  obtain ⟨r, h1, bo, rfl⟩ := a_holds op n
  have hh := old1 (by decide) h1
  have hl := s_logical bo
  have k2 := num_two hka
  rcases cmp_cases hop with rfl | rfl | rfl | rfl | rfl | rfl
  · skip
    have d0 : ¬ (⟨#[61, 61]⟩ : ByteArray) = ⟨#[46, 97, 110, 100, 46]⟩ := by decide
    have d1 : ¬ (⟨#[61, 61]⟩ : ByteArray) = ⟨#[46, 111, 114, 46]⟩ := by decide
    have d2 : ¬ (⟨#[61, 61]⟩ : ByteArray) = ⟨#[43]⟩ := by decide
    have d3 : ¬ (⟨#[61, 61]⟩ : ByteArray) = ⟨#[45]⟩ := by decide
    have d4 : ¬ (⟨#[61, 61]⟩ : ByteArray) = ⟨#[42]⟩ := by decide
    have d5 : ¬ (⟨#[61, 61]⟩ : ByteArray) = ⟨#[47]⟩ := by decide
    refine ex_run (fun r => lim_run (fn := Tryz.f23) fn23 (pr1_none (by decide) _) body23 (Nat.le_of_ble_eq_true rfl) ok23) ?_
    simp (config := { maxSteps := 1000000 }) (disch := omega) only [push_cast, ↓reduceIte, Nat.reduceEqDiff, Nat.reduceAdd, Nat.reduceLT, Nat.reduceLeDiff, Nat.reduceBEq, Nat.reduceMul, Nat.reduceSub, Int.reduceToNat, Int.reduceEq, Int.reduceLT, Int.reduceLE, Int.reduceNeg, Int.reduceAdd, Int.reduceSub, Int.reduceMul, Tryz.f23, kr23, ty3, ty34, ty38, hc, hh, hl, k2, d0, d1, d2, d3, d4, d5, Ex_ite, Ex_some, qv_mk, implies_true]
  · skip
    have d0 : ¬ (⟨#[47, 61]⟩ : ByteArray) = ⟨#[46, 97, 110, 100, 46]⟩ := by decide
    have d1 : ¬ (⟨#[47, 61]⟩ : ByteArray) = ⟨#[46, 111, 114, 46]⟩ := by decide
    have d2 : ¬ (⟨#[47, 61]⟩ : ByteArray) = ⟨#[43]⟩ := by decide
    have d3 : ¬ (⟨#[47, 61]⟩ : ByteArray) = ⟨#[45]⟩ := by decide
    have d4 : ¬ (⟨#[47, 61]⟩ : ByteArray) = ⟨#[42]⟩ := by decide
    have d5 : ¬ (⟨#[47, 61]⟩ : ByteArray) = ⟨#[47]⟩ := by decide
    refine ex_run (fun r => lim_run (fn := Tryz.f23) fn23 (pr1_none (by decide) _) body23 (Nat.le_of_ble_eq_true rfl) ok23) ?_
    simp (config := { maxSteps := 1000000 }) (disch := omega) only [push_cast, ↓reduceIte, Nat.reduceEqDiff, Nat.reduceAdd, Nat.reduceLT, Nat.reduceLeDiff, Nat.reduceBEq, Nat.reduceMul, Nat.reduceSub, Int.reduceToNat, Int.reduceEq, Int.reduceLT, Int.reduceLE, Int.reduceNeg, Int.reduceAdd, Int.reduceSub, Int.reduceMul, Tryz.f23, kr23, ty3, ty34, ty38, hc, hh, hl, k2, d0, d1, d2, d3, d4, d5, Ex_ite, Ex_some, qv_mk, implies_true]
  · skip
    have d0 : ¬ (⟨#[60]⟩ : ByteArray) = ⟨#[46, 97, 110, 100, 46]⟩ := by decide
    have d1 : ¬ (⟨#[60]⟩ : ByteArray) = ⟨#[46, 111, 114, 46]⟩ := by decide
    have d2 : ¬ (⟨#[60]⟩ : ByteArray) = ⟨#[43]⟩ := by decide
    have d3 : ¬ (⟨#[60]⟩ : ByteArray) = ⟨#[45]⟩ := by decide
    have d4 : ¬ (⟨#[60]⟩ : ByteArray) = ⟨#[42]⟩ := by decide
    have d5 : ¬ (⟨#[60]⟩ : ByteArray) = ⟨#[47]⟩ := by decide
    refine ex_run (fun r => lim_run (fn := Tryz.f23) fn23 (pr1_none (by decide) _) body23 (Nat.le_of_ble_eq_true rfl) ok23) ?_
    simp (config := { maxSteps := 1000000 }) (disch := omega) only [push_cast, ↓reduceIte, Nat.reduceEqDiff, Nat.reduceAdd, Nat.reduceLT, Nat.reduceLeDiff, Nat.reduceBEq, Nat.reduceMul, Nat.reduceSub, Int.reduceToNat, Int.reduceEq, Int.reduceLT, Int.reduceLE, Int.reduceNeg, Int.reduceAdd, Int.reduceSub, Int.reduceMul, Tryz.f23, kr23, ty3, ty34, ty38, hc, hh, hl, k2, d0, d1, d2, d3, d4, d5, Ex_ite, Ex_some, qv_mk, implies_true]
  · skip
    have d0 : ¬ (⟨#[60, 61]⟩ : ByteArray) = ⟨#[46, 97, 110, 100, 46]⟩ := by decide
    have d1 : ¬ (⟨#[60, 61]⟩ : ByteArray) = ⟨#[46, 111, 114, 46]⟩ := by decide
    have d2 : ¬ (⟨#[60, 61]⟩ : ByteArray) = ⟨#[43]⟩ := by decide
    have d3 : ¬ (⟨#[60, 61]⟩ : ByteArray) = ⟨#[45]⟩ := by decide
    have d4 : ¬ (⟨#[60, 61]⟩ : ByteArray) = ⟨#[42]⟩ := by decide
    have d5 : ¬ (⟨#[60, 61]⟩ : ByteArray) = ⟨#[47]⟩ := by decide
    refine ex_run (fun r => lim_run (fn := Tryz.f23) fn23 (pr1_none (by decide) _) body23 (Nat.le_of_ble_eq_true rfl) ok23) ?_
    simp (config := { maxSteps := 1000000 }) (disch := omega) only [push_cast, ↓reduceIte, Nat.reduceEqDiff, Nat.reduceAdd, Nat.reduceLT, Nat.reduceLeDiff, Nat.reduceBEq, Nat.reduceMul, Nat.reduceSub, Int.reduceToNat, Int.reduceEq, Int.reduceLT, Int.reduceLE, Int.reduceNeg, Int.reduceAdd, Int.reduceSub, Int.reduceMul, Tryz.f23, kr23, ty3, ty34, ty38, hc, hh, hl, k2, d0, d1, d2, d3, d4, d5, Ex_ite, Ex_some, qv_mk, implies_true]
  · skip
    have d0 : ¬ (⟨#[62]⟩ : ByteArray) = ⟨#[46, 97, 110, 100, 46]⟩ := by decide
    have d1 : ¬ (⟨#[62]⟩ : ByteArray) = ⟨#[46, 111, 114, 46]⟩ := by decide
    have d2 : ¬ (⟨#[62]⟩ : ByteArray) = ⟨#[43]⟩ := by decide
    have d3 : ¬ (⟨#[62]⟩ : ByteArray) = ⟨#[45]⟩ := by decide
    have d4 : ¬ (⟨#[62]⟩ : ByteArray) = ⟨#[42]⟩ := by decide
    have d5 : ¬ (⟨#[62]⟩ : ByteArray) = ⟨#[47]⟩ := by decide
    refine ex_run (fun r => lim_run (fn := Tryz.f23) fn23 (pr1_none (by decide) _) body23 (Nat.le_of_ble_eq_true rfl) ok23) ?_
    simp (config := { maxSteps := 1000000 }) (disch := omega) only [push_cast, ↓reduceIte, Nat.reduceEqDiff, Nat.reduceAdd, Nat.reduceLT, Nat.reduceLeDiff, Nat.reduceBEq, Nat.reduceMul, Nat.reduceSub, Int.reduceToNat, Int.reduceEq, Int.reduceLT, Int.reduceLE, Int.reduceNeg, Int.reduceAdd, Int.reduceSub, Int.reduceMul, Tryz.f23, kr23, ty3, ty34, ty38, hc, hh, hl, k2, d0, d1, d2, d3, d4, d5, Ex_ite, Ex_some, qv_mk, implies_true]
  · skip
    have d0 : ¬ (⟨#[62, 61]⟩ : ByteArray) = ⟨#[46, 97, 110, 100, 46]⟩ := by decide
    have d1 : ¬ (⟨#[62, 61]⟩ : ByteArray) = ⟨#[46, 111, 114, 46]⟩ := by decide
    have d2 : ¬ (⟨#[62, 61]⟩ : ByteArray) = ⟨#[43]⟩ := by decide
    have d3 : ¬ (⟨#[62, 61]⟩ : ByteArray) = ⟨#[45]⟩ := by decide
    have d4 : ¬ (⟨#[62, 61]⟩ : ByteArray) = ⟨#[42]⟩ := by decide
    have d5 : ¬ (⟨#[62, 61]⟩ : ByteArray) = ⟨#[47]⟩ := by decide
    refine ex_run (fun r => lim_run (fn := Tryz.f23) fn23 (pr1_none (by decide) _) body23 (Nat.le_of_ble_eq_true rfl) ok23) ?_
    simp (config := { maxSteps := 1000000 }) (disch := omega) only [push_cast, ↓reduceIte, Nat.reduceEqDiff, Nat.reduceAdd, Nat.reduceLT, Nat.reduceLeDiff, Nat.reduceBEq, Nat.reduceMul, Nat.reduceSub, Int.reduceToNat, Int.reduceEq, Int.reduceLT, Int.reduceLE, Int.reduceNeg, Int.reduceAdd, Int.reduceSub, Int.reduceMul, Tryz.f23, kr23, ty3, ty34, ty38, hc, hh, hl, k2, d0, d1, d2, d3, d4, d5, Ex_ite, Ex_some, qv_mk, implies_true]
theorem s_log (op : ByteArray) (hop : op ∈ logL) (a b : Int) : Ex1 (qv 2) (CALL1 23 [Str op, Vl 2 a, Vl 2 b]) := by
  have hl := s_logical
  rcases log_cases hop with rfl | rfl | rfl | rfl
  · skip
    have d0 : ¬ (⟨#[61, 61]⟩ : ByteArray) = ⟨#[46, 97, 110, 100, 46]⟩ := by decide
    have d1 : ¬ (⟨#[61, 61]⟩ : ByteArray) = ⟨#[46, 111, 114, 46]⟩ := by decide
    have d2 : ¬ (⟨#[61, 61]⟩ : ByteArray) = ⟨#[43]⟩ := by decide
    have d3 : ¬ (⟨#[61, 61]⟩ : ByteArray) = ⟨#[45]⟩ := by decide
    have d4 : ¬ (⟨#[61, 61]⟩ : ByteArray) = ⟨#[42]⟩ := by decide
    have d5 : ¬ (⟨#[61, 61]⟩ : ByteArray) = ⟨#[47]⟩ := by decide
    by_cases c : a = b
    · refine ex_run (fun r => lim_run (fn := Tryz.f23) fn23 (pr1_none (by decide) _) body23 (Nat.le_of_ble_eq_true rfl) ok23) ?_
      simp (config := { maxSteps := 1000000 }) (disch := omega) only [push_cast, ↓reduceIte, Nat.reduceEqDiff, Nat.reduceAdd, Nat.reduceLT, Nat.reduceLeDiff, Nat.reduceBEq, Nat.reduceMul, Nat.reduceSub, Int.reduceToNat, Int.reduceEq, Int.reduceLT, Int.reduceLE, Int.reduceNeg, Int.reduceAdd, Int.reduceSub, Int.reduceMul, Tryz.f23, kr23, ty3, ty34, ty38, hl, c, tb4, d0, d1, d2, d3, d4, d5, Ex_ite, Ex_some, qv_mk, implies_true]
    · refine ex_run (fun r => lim_run (fn := Tryz.f23) fn23 (pr1_none (by decide) _) body23 (Nat.le_of_ble_eq_true rfl) ok23) ?_
      simp (config := { maxSteps := 1000000 }) (disch := omega) only [push_cast, ↓reduceIte, Nat.reduceEqDiff, Nat.reduceAdd, Nat.reduceLT, Nat.reduceLeDiff, Nat.reduceBEq, Nat.reduceMul, Nat.reduceSub, Int.reduceToNat, Int.reduceEq, Int.reduceLT, Int.reduceLE, Int.reduceNeg, Int.reduceAdd, Int.reduceSub, Int.reduceMul, Tryz.f23, kr23, ty3, ty34, ty38, hl, c, tb4, d0, d1, d2, d3, d4, d5, Ex_ite, Ex_some, qv_mk, implies_true]
  · skip
    have d0 : ¬ (⟨#[47, 61]⟩ : ByteArray) = ⟨#[46, 97, 110, 100, 46]⟩ := by decide
    have d1 : ¬ (⟨#[47, 61]⟩ : ByteArray) = ⟨#[46, 111, 114, 46]⟩ := by decide
    have d2 : ¬ (⟨#[47, 61]⟩ : ByteArray) = ⟨#[43]⟩ := by decide
    have d3 : ¬ (⟨#[47, 61]⟩ : ByteArray) = ⟨#[45]⟩ := by decide
    have d4 : ¬ (⟨#[47, 61]⟩ : ByteArray) = ⟨#[42]⟩ := by decide
    have d5 : ¬ (⟨#[47, 61]⟩ : ByteArray) = ⟨#[47]⟩ := by decide
    have d6 : ¬ (⟨#[47, 61]⟩ : ByteArray) = ⟨#[61, 61]⟩ := by decide
    by_cases c : a = b
    · refine ex_run (fun r => lim_run (fn := Tryz.f23) fn23 (pr1_none (by decide) _) body23 (Nat.le_of_ble_eq_true rfl) ok23) ?_
      simp (config := { maxSteps := 1000000 }) (disch := omega) only [push_cast, ↓reduceIte, Nat.reduceEqDiff, Nat.reduceAdd, Nat.reduceLT, Nat.reduceLeDiff, Nat.reduceBEq, Nat.reduceMul, Nat.reduceSub, Int.reduceToNat, Int.reduceEq, Int.reduceLT, Int.reduceLE, Int.reduceNeg, Int.reduceAdd, Int.reduceSub, Int.reduceMul, Tryz.f23, kr23, ty3, ty34, ty38, hl, c, tb4, d0, d1, d2, d3, d4, d5, d6, Ex_ite, Ex_some, qv_mk, implies_true]
    · refine ex_run (fun r => lim_run (fn := Tryz.f23) fn23 (pr1_none (by decide) _) body23 (Nat.le_of_ble_eq_true rfl) ok23) ?_
      simp (config := { maxSteps := 1000000 }) (disch := omega) only [push_cast, ↓reduceIte, Nat.reduceEqDiff, Nat.reduceAdd, Nat.reduceLT, Nat.reduceLeDiff, Nat.reduceBEq, Nat.reduceMul, Nat.reduceSub, Int.reduceToNat, Int.reduceEq, Int.reduceLT, Int.reduceLE, Int.reduceNeg, Int.reduceAdd, Int.reduceSub, Int.reduceMul, Tryz.f23, kr23, ty3, ty34, ty38, hl, c, tb4, d0, d1, d2, d3, d4, d5, d6, Ex_ite, Ex_some, qv_mk, implies_true]
  · skip
    by_cases c : a = 1
    · refine ex_run (fun r => lim_run (fn := Tryz.f23) fn23 (pr1_none (by decide) _) body23 (Nat.le_of_ble_eq_true rfl) ok23) ?_
      simp (config := { maxSteps := 1000000 }) (disch := omega) only [push_cast, ↓reduceIte, Nat.reduceEqDiff, Nat.reduceAdd, Nat.reduceLT, Nat.reduceLeDiff, Nat.reduceBEq, Nat.reduceMul, Nat.reduceSub, Int.reduceToNat, Int.reduceEq, Int.reduceLT, Int.reduceLE, Int.reduceNeg, Int.reduceAdd, Int.reduceSub, Int.reduceMul, Tryz.f23, kr23, ty3, ty34, ty38, hl, c, Ex_ite, Ex_some, qv_mk, implies_true]
    · refine ex_run (fun r => lim_run (fn := Tryz.f23) fn23 (pr1_none (by decide) _) body23 (Nat.le_of_ble_eq_true rfl) ok23) ?_
      simp (config := { maxSteps := 1000000 }) (disch := omega) only [push_cast, ↓reduceIte, Nat.reduceEqDiff, Nat.reduceAdd, Nat.reduceLT, Nat.reduceLeDiff, Nat.reduceBEq, Nat.reduceMul, Nat.reduceSub, Int.reduceToNat, Int.reduceEq, Int.reduceLT, Int.reduceLE, Int.reduceNeg, Int.reduceAdd, Int.reduceSub, Int.reduceMul, Tryz.f23, kr23, ty3, ty34, ty38, hl, c, Ex_ite, Ex_some, qv_mk, implies_true]
  · skip
    have d0 : ¬ (⟨#[46, 111, 114, 46]⟩ : ByteArray) = ⟨#[46, 97, 110, 100, 46]⟩ := by decide
    by_cases c : a = 1
    · refine ex_run (fun r => lim_run (fn := Tryz.f23) fn23 (pr1_none (by decide) _) body23 (Nat.le_of_ble_eq_true rfl) ok23) ?_
      simp (config := { maxSteps := 1000000 }) (disch := omega) only [push_cast, ↓reduceIte, Nat.reduceEqDiff, Nat.reduceAdd, Nat.reduceLT, Nat.reduceLeDiff, Nat.reduceBEq, Nat.reduceMul, Nat.reduceSub, Int.reduceToNat, Int.reduceEq, Int.reduceLT, Int.reduceLE, Int.reduceNeg, Int.reduceAdd, Int.reduceSub, Int.reduceMul, Tryz.f23, kr23, ty3, ty34, ty38, hl, c, d0, Ex_ite, Ex_some, qv_mk, implies_true]
    · refine ex_run (fun r => lim_run (fn := Tryz.f23) fn23 (pr1_none (by decide) _) body23 (Nat.le_of_ble_eq_true rfl) ok23) ?_
      simp (config := { maxSteps := 1000000 }) (disch := omega) only [push_cast, ↓reduceIte, Nat.reduceEqDiff, Nat.reduceAdd, Nat.reduceLT, Nat.reduceLeDiff, Nat.reduceBEq, Nat.reduceMul, Nat.reduceSub, Int.reduceToNat, Int.reduceEq, Int.reduceLT, Int.reduceLE, Int.reduceNeg, Int.reduceAdd, Int.reduceSub, Int.reduceMul, Tryz.f23, kr23, ty3, ty34, ty38, hl, c, d0, Ex_ite, Ex_some, qv_mk, implies_true]
/-- One operation, where there is one. -/
theorem s_one (op : ByteArray) (ka a kb b : Int) (h : ¬ kindQ op ka kb = 0) : ∃ k n e, CALL1 23 [Str op, Vl ka a, Vl kb b] = some (.tup [Vl k n, I e], []) ∧ (e = 0 → k = kindQ op ka kb) := by
  unfold kindQ at h ⊢
  split
  · rename_i c
    obtain ⟨r, h1, k, n, e, rfl, h2⟩ := s_ari op c.1 ka a kb b c.2.1 c.2.2
    exact ⟨k, n, e, h1, h2⟩
  · rename_i c1
    rw [if_neg c1] at h
    split
    · rename_i c
      obtain ⟨r, h1, k, n, e, rfl, h2⟩ := s_cmp op c.1 ka a kb b c.2.1 c.2.2
      exact ⟨k, n, e, h1, h2⟩
    · rename_i c2
      rw [if_neg c2] at h
      split
      · rename_i c
        obtain ⟨h1, rfl, rfl⟩ := c
        obtain ⟨r, h1, k, n, e, rfl, h2⟩ := s_log op h1 a b
        exact ⟨k, n, e, h1, h2⟩
      · rename_i c3
        rw [if_neg c3] at h
        exact absurd rfl h
end Go.Proofs.YtnbijiopcgfmfaaGreat.Tev
/- Operations of arrays: shapes, element by element. -/
namespace Go.Proofs.YtnbijiopcgfmfaaGreat.Tev
open Go Go.RowKit Go.Proofs Go.Proofs.YtnbijiopcgfmfaaGreat.Q
set_option linter.unusedSectionVars false
set_option maxRecDepth 100000
set_option maxHeartbeats 0
set_option linter.unusedSimpArgs false
set_option linter.unusedVariables false
theorem l_Equal (b1 b2 : Bool) (c1 c2 : Option Nat) (xs ys : List Int) (hl : xs.length = ys.length) (hx : (xs.length : Int) ≤ 9223372036854775806) :
    ∀ (r q : List Int) (i : Nat), xs.drop i = r → ys.drop i = q → lp E0 pr0 44 4 ⟨[(0, SL b1 c1 xs.length (ints xs)), (1, SL b2 c2 ys.length (ints ys)), (12, I xs.length), (13, I i)], [], 0⟩ =
      if r = q then some (.exit 0, ⟨[], [], 0⟩) else some (.ret, ⟨[(4, B false)], [], 0⟩) := by
  intro r
  induction r with
  | nil =>
    intro q i hi hq
    have h1 := drop_nil hi
    have h2 : ¬ (i : Int) < xs.length := by omega
    have h3 : q = [] := by rw [← hq]; exact List.drop_eq_nil_of_le (by omega)
    rw [if_pos h3.symm]
    rw [lp_eq lp44_4]
    simp (config := { maxSteps := 1000000 }) (disch := omega) only [push_cast, ↓reduceIte, Nat.reduceEqDiff, Nat.reduceAdd, Nat.reduceLT, Nat.reduceLeDiff, Nat.reduceBEq, Nat.reduceMul, Nat.reduceSub, Int.reduceToNat, Int.reduceEq, Int.reduceLT, Int.reduceLE, Int.reduceNeg, Int.reduceAdd, Int.reduceSub, Int.reduceMul, Tryz.f44, kr44, kp44_4, ow44_4, ty3, ty4, ty22, tb4, h2]
  | cons x r ih =>
    intro q i hi hq
    obtain ⟨h1, h2, h3⟩ := drop_cons hi
    have h4 : (i : Int) < xs.length := by omega
    have h4' : (i : Int) < ys.length := by omega
    have h1' : i < ys.length := by omega
    cases q with
    | nil => exact absurd (drop_nil hq) (by omega)
    | cons y q =>
      obtain ⟨g1, g2, g3⟩ := drop_cons hq
      have ih' := ih q (i + 1) h3 g3
      simp only [cast1] at ih'
      by_cases c : x = y
      · subst c
        by_cases e : r = q
        · rw [if_pos e] at ih'
          rw [if_pos (by rw [e])]
          rw [lp_eq lp44_4]
          simp (config := { maxSteps := 1000000 }) (disch := omega) only [push_cast, ↓reduceIte, Nat.reduceEqDiff, Nat.reduceAdd, Nat.reduceLT, Nat.reduceLeDiff, Nat.reduceBEq, Nat.reduceMul, Nat.reduceSub, Int.reduceToNat, Int.reduceEq, Int.reduceLT, Int.reduceLE, Int.reduceNeg, Int.reduceAdd, Int.reduceSub, Int.reduceMul, Tryz.f44, kr44, kp44_4, ow44_4, ty3, ty4, ty22, tb4, h1, h1', h4, h4', getD_of h2, getD_of g2, ih', ne_eq]
        · rw [if_neg e] at ih'
          rw [if_neg (by simp [e])]
          rw [lp_eq lp44_4]
          simp (config := { maxSteps := 1000000 }) (disch := omega) only [push_cast, ↓reduceIte, Nat.reduceEqDiff, Nat.reduceAdd, Nat.reduceLT, Nat.reduceLeDiff, Nat.reduceBEq, Nat.reduceMul, Nat.reduceSub, Int.reduceToNat, Int.reduceEq, Int.reduceLT, Int.reduceLE, Int.reduceNeg, Int.reduceAdd, Int.reduceSub, Int.reduceMul, Tryz.f44, kr44, kp44_4, ow44_4, ty3, ty4, ty22, tb4, h1, h1', h4, h4', getD_of h2, getD_of g2, ih', ne_eq]
      · rw [if_neg (by simp [c])]
        rw [lp_eq lp44_4]
        simp (config := { maxSteps := 1000000 }) (disch := omega) only [push_cast, ↓reduceIte, Nat.reduceEqDiff, Nat.reduceAdd, Nat.reduceLT, Nat.reduceLeDiff, Nat.reduceBEq, Nat.reduceMul, Nat.reduceSub, Int.reduceToNat, Int.reduceEq, Int.reduceLT, Int.reduceLE, Int.reduceNeg, Int.reduceAdd, Int.reduceSub, Int.reduceMul, Tryz.f44, kr44, kp44_4, ow44_4, ty3, ty4, ty22, tb4, h1, h1', h4, h4', getD_of h2, getD_of g2, c, ne_eq]
theorem c_Equal (b1 b2 : Bool) (c1 c2 : Option Nat) (xs ys : List Int) (hx : (xs.length : Int) ≤ 9223372036854775806) (hy : (ys.length : Int) ≤ 9223372036854775806) :
    CALL 44 [SL b1 c1 xs.length (ints xs), SL b2 c2 ys.length (ints ys)] = some (B (decide (xs = ys)), []) := by
  by_cases hl : (xs.length : Int) = ys.length
  · have h := l_Equal b1 b2 c1 c2 xs ys (by omega) hx xs ys 0 rfl rfl
    simp only [Int.natCast_zero, hl] at h
    by_cases c : xs = ys
    · rw [if_pos c] at h
      rw [decide_eq_true c]
      refine lim_run (fn := Tryz.f44) fn44 rfl body44 (Nat.le_of_ble_eq_true rfl) ok44 ?_
      simp (config := { maxSteps := 1000000 }) (disch := omega) only [push_cast, ↓reduceIte, Nat.reduceEqDiff, Nat.reduceAdd, Nat.reduceLT, Nat.reduceLeDiff, Nat.reduceBEq, Nat.reduceMul, Nat.reduceSub, Int.reduceToNat, Int.reduceEq, Int.reduceLT, Int.reduceLE, Int.reduceNeg, Int.reduceAdd, Int.reduceSub, Int.reduceMul, Tryz.f44, kr44, kp44_4, ow44_4, ty3, ty4, ty22, tb4, hl, h, ne_eq]
    · rw [if_neg c] at h
      rw [decide_eq_false c]
      refine lim_run (fn := Tryz.f44) fn44 rfl body44 (Nat.le_of_ble_eq_true rfl) ok44 ?_
      simp (config := { maxSteps := 1000000 }) (disch := omega) only [push_cast, ↓reduceIte, Nat.reduceEqDiff, Nat.reduceAdd, Nat.reduceLT, Nat.reduceLeDiff, Nat.reduceBEq, Nat.reduceMul, Nat.reduceSub, Int.reduceToNat, Int.reduceEq, Int.reduceLT, Int.reduceLE, Int.reduceNeg, Int.reduceAdd, Int.reduceSub, Int.reduceMul, Tryz.f44, kr44, kp44_4, ow44_4, ty3, ty4, ty22, tb4, hl, h, ne_eq]
  · rw [decide_eq_false (show ¬ xs = ys from fun h => hl (by rw [h]))]
    refine lim_run (fn := Tryz.f44) fn44 rfl body44 (Nat.le_of_ble_eq_true rfl) ok44 ?_
    simp (config := { maxSteps := 1000000 }) (disch := omega) only [push_cast, ↓reduceIte, Nat.reduceEqDiff, Nat.reduceAdd, Nat.reduceLT, Nat.reduceLeDiff, Nat.reduceBEq, Nat.reduceMul, Nat.reduceSub, Int.reduceToNat, Int.reduceEq, Int.reduceLT, Int.reduceLE, Int.reduceNeg, Int.reduceAdd, Int.reduceSub, Int.reduceMul, Tryz.f44, kr44, kp44_4, ow44_4, ty3, ty4, ty22, tb4, hl, ne_eq]
/-- The shape that two arrays have together. -/
def shQ (a b : List Int) : Option (List Int) := if a.length = 0 then some b else if b.length = 0 then some a else if a = b then some a else none
section
variable (ka kb : Int) (sa ea sb eb : List Int)
abbrev Two2 (ka kb : Int) (sa ea sb eb : List Int) : List C := [CI ka, .s none sa.length (ints sa), .s none ea.length (ints ea), CI kb, .s none sb.length (ints sb), .s none eb.length (ints eb)]
theorem a_shaped (b : Bool) (c : Option Nat) (ha : (sa.length : Int) ≤ 1000) (hb : (sb.length : Int) ≤ 1000) (hea : (ea.length : Int) ≤ 9223372036854775806) (heb : (eb.length : Int) ≤ 9223372036854775806) :
    CALL 20 [SL b c 2 (Two2 ka kb sa ea sb eb)] = match shQ sa sb with
      | some sh => some (.tup [.sl 0 0 sh.length 1 none, B true], [ints sh])
      | none => some (.tup [.sl 0 0 0 1 none, B false], [[]]) := by
  have i1 := a_isScalar ka true true none none sa ea (by omega)
  have i2 := a_isScalar kb true true none none sb eb (by omega)
  have he := c_Equal true true none none sa sb (by omega) (by omega)
  have he' := he
  have i1' := i1
  have i2' := i2
  simp only [SL] at i1' i2' he'
  have k0 : CALL 40 [SL true (some 0) 0 []] = some (.sl 0 0 0 1 none, [[]]) := c_Clone true (some 0) [] (by simp)
  have k1 := c_Clone true none sa (by omega)
  have k2 := c_Clone true none sb (by omega)
  have k0' := k0
  have k1' := k1
  have k2' := k2
  simp only [SL] at k0' k1' k2'
  unfold shQ
  by_cases c1 : (sa.length : Int) = 0
  · rw [if_pos (by omega)]
    by_cases c2 : (sb.length : Int) = 0
    · have z2 : sb = [] := List.length_eq_zero_iff.1 (by omega)
      dsimp only
      conv => rhs; rw [z2]
      refine lim_run (fn := Tryz.f20) fn20 rfl body20 (Nat.le_of_ble_eq_true rfl) ok20 ?_
      simp (config := { maxSteps := 1000000 }) (disch := omega) only [push_cast, ↓reduceIte, Nat.reduceEqDiff, Nat.reduceAdd, Nat.reduceLT, Nat.reduceLeDiff, Nat.reduceBEq, Nat.reduceMul, Nat.reduceSub, Int.reduceToNat, Int.reduceEq, Int.reduceLT, Int.reduceLE, Int.reduceNeg, Int.reduceAdd, Int.reduceSub, Int.reduceMul, Tryz.f20, kr20, kp20_4, ow20_4, ty3, ty4, ty22, ty24, ty53, tb4, i1, i2, i1', i2', c1, c2, k0, k0', fun S0 => lp_eq (S0 := S0) (pr := pr0) lp20_4]
    · refine lim_run (fn := Tryz.f20) fn20 rfl body20 (Nat.le_of_ble_eq_true rfl) ok20 ?_
      simp (config := { maxSteps := 1000000 }) (disch := omega) only [push_cast, ↓reduceIte, Nat.reduceEqDiff, Nat.reduceAdd, Nat.reduceLT, Nat.reduceLeDiff, Nat.reduceBEq, Nat.reduceMul, Nat.reduceSub, Int.reduceToNat, Int.reduceEq, Int.reduceLT, Int.reduceLE, Int.reduceNeg, Int.reduceAdd, Int.reduceSub, Int.reduceMul, Tryz.f20, kr20, kp20_4, ow20_4, ty3, ty4, ty22, ty24, ty53, tb4, i1, i2, i1', i2', c1, c2, k2, k2', fun S0 => lp_eq (S0 := S0) (pr := pr0) lp20_4]
  · rw [if_neg (by omega)]
    by_cases c2 : (sb.length : Int) = 0
    · have z2 : sb = [] := List.length_eq_zero_iff.1 (by omega)
      rw [if_pos (by omega)]
      refine lim_run (fn := Tryz.f20) fn20 rfl body20 (Nat.le_of_ble_eq_true rfl) ok20 ?_
      simp (config := { maxSteps := 1000000 }) (disch := omega) only [push_cast, ↓reduceIte, Nat.reduceEqDiff, Nat.reduceAdd, Nat.reduceLT, Nat.reduceLeDiff, Nat.reduceBEq, Nat.reduceMul, Nat.reduceSub, Int.reduceToNat, Int.reduceEq, Int.reduceLT, Int.reduceLE, Int.reduceNeg, Int.reduceAdd, Int.reduceSub, Int.reduceMul, Tryz.f20, kr20, kp20_4, ow20_4, ty3, ty4, ty22, ty24, ty53, tb4, i1, i2, i1', i2', c1, c2, k1, k1', fun S0 => lp_eq (S0 := S0) (pr := pr0) lp20_4]
    · rw [if_neg (by omega)]
      by_cases c3 : sa = sb
      · rw [if_pos c3]
        subst c3
        refine lim_run (fn := Tryz.f20) fn20 rfl body20 (Nat.le_of_ble_eq_true rfl) ok20 ?_
        simp (config := { maxSteps := 1000000 }) (disch := omega) only [push_cast, ↓reduceIte, Nat.reduceEqDiff, Nat.reduceAdd, Nat.reduceLT, Nat.reduceLeDiff, Nat.reduceBEq, Nat.reduceMul, Nat.reduceSub, Int.reduceToNat, Int.reduceEq, Int.reduceLT, Int.reduceLE, Int.reduceNeg, Int.reduceAdd, Int.reduceSub, Int.reduceMul, Tryz.f20, kr20, kp20_4, ow20_4, ty3, ty4, ty22, ty24, ty53, tb4, i1, i2, i1', i2', c1, c2, k1, k1', he, he', fun S0 => lp_eq (S0 := S0) (pr := pr0) lp20_4]
      · rw [if_neg c3]
        refine lim_run (fn := Tryz.f20) fn20 rfl body20 (Nat.le_of_ble_eq_true rfl) ok20 ?_
        simp (config := { maxSteps := 1000000 }) (disch := omega) only [push_cast, ↓reduceIte, Nat.reduceEqDiff, Nat.reduceAdd, Nat.reduceLT, Nat.reduceLeDiff, Nat.reduceBEq, Nat.reduceMul, Nat.reduceSub, Int.reduceToNat, Int.reduceEq, Int.reduceLT, Int.reduceLE, Int.reduceNeg, Int.reduceAdd, Int.reduceSub, Int.reduceMul, Tryz.f20, kr20, kp20_4, ow20_4, ty3, ty4, ty22, ty24, ty53, tb4, i1, i2, i1', i2', c1, c2, c3, he, he', fun S0 => lp_eq (S0 := S0) (pr := pr0) lp20_4]
end
end Go.Proofs.YtnbijiopcgfmfaaGreat.Tev
