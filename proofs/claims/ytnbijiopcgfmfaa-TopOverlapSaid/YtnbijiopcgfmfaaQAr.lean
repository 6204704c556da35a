/- Plain arithmetic that the pure statements share: sums that are not wrapped, counts of triples, products. -/
import GoSem.Claim
import Derived.IntWalk
set_option linter.unusedVariables false
namespace Go.Proofs.Ytnbijiopcgfmfaa.Q
open Go
set_option linter.unusedSectionVars false
set_option linter.unusedSimpArgs false

def mn (x y : Int) : Int := if y < x then y else x
def mx (x y : Int) : Int := if y > x then y else x
theorem w64 {x : Int} (h1 : -9223372036854775808 ≤ x) (h2 : x ≤ 9223372036854775807) : IntKind.i64.wrap x = x := by
  rw [IntKind.wrap_i64]; omega
theorem wrap_in (x : Int) : -9223372036854775808 ≤ IntKind.i64.wrap x ∧ IntKind.i64.wrap x ≤ 9223372036854775807 := by
  rw [IntKind.wrap_i64]; omega

theorem mul_bd {a b A B : Int} (h1 : -A ≤ a) (h2 : a ≤ A) (h3 : -B ≤ b) (h4 : b ≤ B) : -(A * B) ≤ a * b ∧ a * b ≤ A * B := by
  have hA : 0 ≤ A := by omega
  have hB : 0 ≤ B := by omega
  have e : (a * b).natAbs ≤ (A * B).natAbs := by
    rw [Int.natAbs_mul, Int.natAbs_mul]
    exact Nat.mul_le_mul (by omega) (by omega)
  have : 0 ≤ A * B := Int.mul_nonneg hA hB
  omega

theorem mul_lt_of {a b c : Int} (h : a < b) (hc : 0 < c) : a * c < b * c := Int.mul_lt_mul_of_pos_right h hc

/-- How many members a triple has, as the code reckons it. -/
def cnt (lo hi st : Int) : Int := mx 0 (Int.tdiv (hi - lo + st) st)

theorem tdiv_pos {x y : Int} (hx : 0 ≤ x) (hy : 0 < y) : 0 ≤ Int.tdiv x y ∧ Int.tdiv x y * y ≤ x ∧ x < Int.tdiv x y * y + y := by
  rw [Int.tdiv_eq_ediv_of_nonneg hx]
  have h1 := Int.emod_nonneg x (by omega : y ≠ 0)
  have h2 := Int.emod_lt_of_pos x hy
  have h3 := Int.emod_add_mul_ediv x y
  have h4 : x / y * y = y * (x / y) := Int.mul_comm _ _
  exact ⟨Int.ediv_nonneg hx (by omega), by omega, by omega⟩

theorem tdiv_nonpos {x y : Int} (hx : x ≤ 0) (hy : 0 < y) : Int.tdiv x y ≤ 0 := by
  have : Int.tdiv x y = -(Int.tdiv (-x) y) := by rw [Int.neg_tdiv, Int.neg_neg]
  rw [this]
  have := (tdiv_pos (x := -x) (by omega) hy).1
  omega
theorem tdiv_bd (x y : Int) : -(x.natAbs : Int) ≤ Int.tdiv x y ∧ Int.tdiv x y ≤ x.natAbs := by
  have : (Int.tdiv x y).natAbs ≤ x.natAbs := by rw [Int.natAbs_tdiv]; exact Nat.div_le_self _ _
  omega

theorem cnt_pos {lo hi st : Int} (hs : 0 < st) : 0 ≤ cnt lo hi st ∧ hi < lo + cnt lo hi st * st ∧ (0 < cnt lo hi st → lo + (cnt lo hi st - 1) * st ≤ hi) := by
  unfold cnt
  rcases Int.lt_or_le (hi - lo + st) 0 with h | h
  · have h1 := tdiv_nonpos (x := hi - lo + st) (y := st) (by omega) hs
    have e : mx 0 (Int.tdiv (hi - lo + st) st) = 0 := by unfold mx; split <;> omega
    rw [e]
    simp
    omega
  · obtain ⟨h1, h2, h3⟩ := tdiv_pos h hs
    have e : mx 0 (Int.tdiv (hi - lo + st) st) = Int.tdiv (hi - lo + st) st := by unfold mx; split <;> omega
    rw [e, Int.sub_mul, Int.one_mul]
    exact ⟨h1, by omega, fun _ => by omega⟩

theorem cnt_neg {lo hi st : Int} (hs : st < 0) : cnt lo hi st = cnt (-lo) (-hi) (-st) := by
  unfold cnt
  have : Int.tdiv (hi - lo + st) st = Int.tdiv (-hi - -lo + -st) (-st) := by
    rw [Int.tdiv_neg, show (-hi - -lo + -st) = -(hi - lo + st) from by omega, Int.neg_tdiv, Int.neg_neg]
  rw [this]

theorem cnt_neg' {lo hi st : Int} (hs : st < 0) : 0 ≤ cnt lo hi st ∧ lo + cnt lo hi st * st < hi ∧ (0 < cnt lo hi st → hi ≤ lo + (cnt lo hi st - 1) * st) := by
  rw [cnt_neg hs]
  have h := cnt_pos (lo := -lo) (hi := -hi) (st := -st) (by omega)
  rw [Int.mul_neg, Int.mul_neg] at h
  exact ⟨h.1, by omega, fun h0 => by have := h.2.2 h0; omega⟩

/-- Any turn's member lies between the two ends. -/
theorem cnt_in {lo hi st m : Int} (hs : st ≠ 0) (h0 : 0 ≤ m) (h1 : m < cnt lo hi st) : (0 < st → lo ≤ lo + m * st ∧ lo + m * st ≤ hi) ∧ (st < 0 → lo + m * st ≤ lo ∧ hi ≤ lo + m * st) := by
  constructor
  · intro hp
    have h := (cnt_pos (lo := lo) (hi := hi) hp).2.2 (by omega)
    have a := Int.mul_nonneg h0 (by omega : 0 ≤ st)
    have b := Int.mul_le_mul_of_nonneg_right (show m ≤ cnt lo hi st - 1 by omega) (show 0 ≤ st by omega)
    omega
  · intro hn
    have h := (cnt_neg' (lo := lo) (hi := hi) hn).2.2 (by omega)
    have a := Int.mul_nonneg h0 (by omega : 0 ≤ -st)
    have b := Int.mul_le_mul_of_nonneg_right (show m ≤ cnt lo hi st - 1 by omega) (show 0 ≤ -st by omega)
    rw [Int.mul_neg] at a
    rw [Int.mul_neg, Int.mul_neg] at b
    omega

theorem cnt_nonneg (lo hi st : Int) : 0 ≤ cnt lo hi st := by unfold cnt mx; split <;> omega

/-- A count is no greater than the way, and one. -/
theorem cnt_le {lo hi st D : Int} (hs : st ≠ 0) (h1 : -D ≤ hi - lo) (h2 : hi - lo ≤ D) : cnt lo hi st ≤ D + 1 := by
  have hD : 0 ≤ D := by omega
  rcases Int.lt_or_le 0 (cnt lo hi st) with h0 | h0
  · rcases Int.lt_or_gt_of_ne hs with hn | hp
    · have h := (cnt_neg' (lo := lo) (hi := hi) hn).2.2 h0
      have b := Int.mul_le_mul_of_nonneg_left (show 1 ≤ -st by omega) (show 0 ≤ cnt lo hi st - 1 by omega)
      rw [Int.mul_neg] at b
      omega
    · have h := (cnt_pos (lo := lo) (hi := hi) hp).2.2 h0
      have b := Int.mul_le_mul_of_nonneg_left (show 1 ≤ st by omega) (show 0 ≤ cnt lo hi st - 1 by omega)
      omega
  · omega
/-- A triple of numbers that the document takes. -/
def okT (a b s : Int) : Prop := (-2147483648 ≤ a ∧ a ≤ 2147483648) ∧ (-2147483648 ≤ b ∧ b ≤ 2147483648) ∧ (-2147483648 ≤ s ∧ s ≤ 2147483648) ∧ s ≠ 0
instance (a b s : Int) : Decidable (okT a b s) := by unfold okT; infer_instance
/-- The bounds of a count of a triple that is taken. -/
theorem cnt_bd {a b s : Int} (h : okT a b s) : 0 ≤ cnt a b s ∧ cnt a b s ≤ 4294967297 := by
  obtain ⟨ha, hb, hs, h0⟩ := h
  exact ⟨cnt_nonneg _ _ _, by have := cnt_le (lo := a) (hi := b) (st := s) (D := 4294967296) h0 (by omega) (by omega); omega⟩
/-- How far the last member lies, and the next one. -/
theorem cnt_step {a b s : Int} (h : okT a b s) : -6442450944 ≤ cnt a b s * s ∧ cnt a b s * s ≤ 6442450944 ∧ -6442450944 ≤ (cnt a b s - 1) * s ∧ (cnt a b s - 1) * s ≤ 6442450944 := by
  have hb := cnt_bd h
  obtain ⟨ha, hb', hs, h0⟩ := h
  have e : (cnt a b s - 1) * s = cnt a b s * s - s := by rw [Int.sub_mul, Int.one_mul]
  by_cases hc : 0 < cnt a b s
  · have := cnt_in (lo := a) (hi := b) (st := s) (m := cnt a b s - 1) h0 (by omega) (by omega)
    rw [e] at this ⊢
    rcases Int.lt_trichotomy s 0 with hs0 | hs0 | hs0
    · have := this.2 hs0
      omega
    · omega
    · have := this.1 hs0
      omega
  · have hz : cnt a b s = 0 := by omega
    rw [hz]
    omega

/-! Extents, and what they make. -/
/-- Are extents right by themselves? -/
def exts (E : List Int) : Prop := E.length ≤ 3 ∧ ∀ e ∈ E, 0 ≤ e ∧ e ≤ 4000
instance (E : List Int) : Decidable (exts E) := by unfold exts; exact inferInstance
def pr : List Int → Int
  | [] => 1
  | e :: E => e * pr E
/-- How many elements extents have; -1: they are none. -/
def sizeQ (E : List Int) : Int := if exts E ∧ pr E ≤ 4000 then pr E else -1
theorem foldl_pr : ∀ (E : List Int) (a : Int), E.foldl (· * ·) a = a * pr E
  | [], a => by simp [pr]
  | e :: E, a => by rw [List.foldl_cons, foldl_pr E, pr, Int.mul_assoc]
theorem pr_nonneg : ∀ {E : List Int}, (∀ e ∈ E, 0 ≤ e) → 0 ≤ pr E
  | [], _ => by simp [pr]
  | e :: E, h => by
    have h1 := h e (by simp)
    have h2 := pr_nonneg (E := E) (fun x hx => h x (by simp [hx]))
    rw [pr]; exact Int.mul_nonneg h1 h2
theorem pr_pos : ∀ {E : List Int}, (∀ e ∈ E, 1 ≤ e) → 1 ≤ pr E
  | [], _ => by simp [pr]
  | e :: E, h => by
    have h1 := h e (by simp)
    have h2 := pr_pos (E := E) (fun x hx => h x (by simp [hx]))
    have := Int.mul_le_mul h1 h2 (by omega) (by omega)
    rw [pr]
    omega
theorem pr_zero : ∀ {E : List Int}, pr E = 0 → ∃ e ∈ E, e = 0
  | [], h => by simp [pr] at h
  | e :: E, h => by
    rw [pr] at h
    rcases Int.mul_eq_zero.1 h with h | h
    · exact ⟨e, by simp, h⟩
    · obtain ⟨x, hx, hz⟩ := pr_zero h
      exact ⟨x, by simp [hx], hz⟩
theorem pr_of_zero : ∀ {E : List Int}, (0 : Int) ∈ E → pr E = 0
  | [], h => by simp at h
  | x :: E, h => by
    rw [pr]
    rcases List.mem_cons.1 h with rfl | h
    · simp
    · rw [pr_of_zero h, Int.mul_zero]
theorem exts_pos {E : List Int} (h : exts E) (h0 : pr E ≠ 0) : ∀ e ∈ E, 1 ≤ e := by
  intro e he
  have := h.2 e he
  refine Decidable.byContradiction fun hc => h0 ?_
  have hz : e = 0 := by omega
  subst hz
  exact pr_of_zero he
theorem size_none {E : List Int} : sizeQ E < 0 ↔ ¬ (exts E ∧ pr E ≤ 4000) := by
  unfold sizeQ
  constructor
  · intro h hc
    rw [if_pos hc] at h
    have := pr_nonneg fun e he => (hc.1.2 e he).1
    omega
  · intro h
    rw [if_neg h]
    omega
theorem size_some {E : List Int} (h : exts E ∧ pr E ≤ 4000) : sizeQ E = pr E := if_pos h
theorem size_bd (E : List Int) : -1 ≤ sizeQ E ∧ sizeQ E ≤ 4000 := by
  unfold sizeQ
  split
  · rename_i h; have := pr_nonneg fun e he => (h.1.2 e he).1; omega
  · omega
theorem mul_one_le {a b c : Int} (ha : 0 ≤ a) (hb : 1 ≤ b) (h : a * b ≤ c) : a ≤ c := by
  have := Int.mul_le_mul_of_nonneg_left hb ha
  omega
def B4 : Nat → Int
  | 0 => 1
  | 1 => 4000
  | 2 => 16000000
  | _ => 64000000000
theorem B4_le (n : Nat) : B4 n ≤ 64000000000 := by unfold B4; split <;> omega
theorem B4_succ {n : Nat} (hn : n < 3) : B4 n * 4000 = B4 (n + 1) := by
  have : n = 0 ∨ n = 1 ∨ n = 2 := by omega
  rcases this with rfl | rfl | rfl <;> rfl
theorem B4_step {n : Nat} {a e : Int} (hn : n < 3) (h0 : 0 ≤ a) (h1 : a ≤ B4 n) (e0 : 0 ≤ e) (e1 : e ≤ 4000) : 0 ≤ a * e ∧ a * e ≤ B4 (n + 1) := by
  refine ⟨Int.mul_nonneg h0 e0, ?_⟩
  rw [← B4_succ hn]
  exact Int.mul_le_mul h1 e1 e0 (by unfold B4; split <;> omega)

/-! Where elements lie. -/
def lows : List Int → List Int → Int
  | n :: E, s :: S => mn (s * (n - 1)) 0 + lows E S
  | _, _ => 0
def highs : List Int → List Int → Int
  | n :: E, s :: S => mx (s * (n - 1)) 0 + highs E S
  | _, _ => 0
def nearS (n : Int) : Prop := -2147483648 ≤ n ∧ n ≤ 2147483648
instance (n : Int) : Decidable (nearS n) := by unfold nearS; exact inferInstance
theorem mn_bd {x A : Int} (h1 : -A ≤ x) (h2 : x ≤ A) (hA : 0 ≤ A) : -A ≤ mn x 0 ∧ mn x 0 ≤ 0 := by unfold mn; split <;> omega
theorem mx_bd {x A : Int} (h1 : -A ≤ x) (h2 : x ≤ A) (hA : 0 ≤ A) : 0 ≤ mx x 0 ∧ mx x 0 ≤ A := by unfold mx; split <;> omega
theorem way_bd {s n : Int} (hs : nearS s) (h0 : 0 ≤ n) (h1 : n ≤ 4000) : -9000000000000 ≤ s * (n - 1) ∧ s * (n - 1) ≤ 9000000000000 := by
  unfold nearS at hs
  have := mul_bd (A := 2147483648) (B := 4000) hs.1 hs.2 (show -4000 ≤ n - 1 by omega) (by omega)
  omega
/-- A descriptor is valid. -/
def okD (base : Int) (E S : List Int) : Prop := exts E ∧ pr E ≤ 4000 ∧ S.length = E.length ∧ 0 ≤ base ∧ (∀ s ∈ S, nearS s) ∧ (pr E = 0 ∨ (base ≤ 2147483648 ∧ 0 ≤ base + lows E S ∧ base + highs E S ≤ 2147483648))
instance (base : Int) (E S : List Int) : Decidable (okD base E S) := by unfold okD; exact inferInstance

/-- One row of places, moved j ways on. -/
def rowW (out : List Int) (s j : Int) : List Int := out.map fun x => IntKind.i64.wrap (x + IntKind.i64.wrap (j * s))
def dimW (out : List Int) (s : Int) (d : Nat) (j : Int) : List Int := (List.range d).flatMap fun t : Nat => rowW out s (j + t)
def plcW : List Int → List Int → List Int → List Int
  | n :: E, s :: S, out => plcW E S (dimW out s n.toNat 0)
  | _, _, out => out
theorem dimW_zero (out : List Int) (s j : Int) : dimW out s 0 j = [] := by simp [dimW]
theorem dimW_succ (out : List Int) (s : Int) (d : Nat) (j : Int) : dimW out s (d + 1) j = rowW out s j ++ dimW out s d (j + 1) := by
  unfold dimW
  rw [List.range_succ_eq_map, List.flatMap_cons, List.flatMap_map]
  congr 1
  · simp
  · congr 1
    funext t
    congr 1
    push_cast
    omega
theorem rowW_length (out : List Int) (s j : Int) : (rowW out s j).length = out.length := by simp [rowW]
theorem dimW_length (out : List Int) (s : Int) : ∀ (d : Nat) (j : Int), (dimW out s d j).length = d * out.length
  | 0, j => by simp [dimW]
  | d + 1, j => by rw [dimW_succ, List.length_append, rowW_length, dimW_length out s d, Nat.succ_mul]; omega
theorem mem_dimW {out : List Int} {s y : Int} {d : Nat} : y ∈ dimW out s d 0 ↔ ∃ x ∈ out, ∃ t : Nat, t < d ∧ y = IntKind.i64.wrap (x + IntKind.i64.wrap ((t : Int) * s)) := by
  unfold dimW rowW
  simp only [List.mem_flatMap, List.mem_range, List.mem_map, Int.zero_add]
  constructor
  · rintro ⟨t, ht, x, hx, rfl⟩
    exact ⟨x, hx, t, ht, rfl⟩
  · rintro ⟨x, hx, t, ht, rfl⟩
    exact ⟨t, ht, x, hx, rfl⟩
theorem way_t {s n t : Int} (hs : nearS s) (h0 : 0 ≤ t) (h1 : t ≤ n - 1) (h2 : n ≤ 4000) : -9000000000000 ≤ t * s ∧ t * s ≤ 9000000000000 ∧ mn (s * (n - 1)) 0 ≤ t * s ∧ t * s ≤ mx (s * (n - 1)) 0 := by
  have hb := mul_bd (a := t) (b := s) (A := 4000) (B := 2147483648) (by omega) (by omega) hs.1 hs.2
  refine ⟨by omega, by omega, ?_⟩
  by_cases hp : 0 ≤ s
  · have h3 : 0 ≤ t * s := Int.mul_nonneg h0 hp
    have h4 : t * s ≤ (n - 1) * s := Int.mul_le_mul_of_nonneg_right h1 hp
    rw [Int.mul_comm s]
    unfold mn mx
    constructor <;> split <;> omega
  · have h3 : t * s ≤ 0 := Int.mul_nonpos_of_nonneg_of_nonpos h0 (by omega)
    have h4 : (n - 1) * s ≤ t * s := Int.mul_le_mul_of_nonpos_right h1 (by omega)
    rw [Int.mul_comm s]
    unfold mn mx
    constructor <;> split <;> omega
/-- Places by the ends. -/
theorem all_plc (M : Int) : ∀ (E S out : List Int) (d : Nat), d ≤ 3 → E.length ≤ d → S.length = E.length → (∀ e ∈ E, 1 ≤ e ∧ e ≤ 4000) → (∀ s ∈ S, nearS s) →
    (∀ x ∈ out, -100000000000000 + 10000000000000 * (d : Int) ≤ x ∧ x ≤ 100000000000000 - 10000000000000 * (d : Int)) →
    ((∀ x ∈ plcW E S out, 0 ≤ x ∧ x ≤ M) ↔ (∀ x ∈ out, 0 ≤ x + lows E S ∧ x + highs E S ≤ M))
  | [], S, out, d, _, _, _, _, _, _ => by simp [plcW, lows, highs]
  | _ :: _, [], _, _, _, _, h, _, _, _ => by simp at h
  | n :: E, s :: S, out, 0, _, hl, _, _, _, _ => by simp at hl
  | n :: E, s :: S, out, d + 1, hd, hl, hS, hE, hN, ho => by
    have hn := hE n (by simp)
    have hs := hN s (by simp)
    have hy : ∀ x ∈ out, ∀ t : Nat, t < n.toNat → IntKind.i64.wrap (x + IntKind.i64.wrap ((t : Int) * s)) = x + t * s := by
      intro x hx t ht
      have h1 := ho x hx
      have h2 := way_t hs (t := t) (n := n) (by omega) (by omega) hn.2
      rw [w64 (x := (t : Int) * s) (by omega) (by omega), w64 (by omega) (by omega)]
    rw [plcW, all_plc M E S (dimW out s n.toNat 0) d (by omega) (by simpa using hl) (by simpa using hS) (fun e he => hE e (by simp [he])) (fun e he => hN e (by simp [he])) (by
      intro y hm
      obtain ⟨x, hx, t, ht, rfl⟩ := mem_dimW.1 hm
      rw [hy x hx t ht]
      have h1 := ho x hx
      have h2 := way_t hs (t := t) (n := n) (by omega) (by omega) hn.2
      omega)]
    constructor
    · intro h x hx
      have a := h _ (mem_dimW.2 ⟨x, hx, 0, by omega, rfl⟩)
      have b := h _ (mem_dimW.2 ⟨x, hx, n.toNat - 1, by omega, rfl⟩)
      rw [hy x hx 0 (by omega)] at a
      rw [hy x hx (n.toNat - 1) (by omega), show ((n.toNat - 1 : Nat) : Int) = n - 1 from by omega, Int.mul_comm] at b
      rw [show (((0 : Nat) : Int) * s) = 0 from by simp] at a
      have l : lows (n :: E) (s :: S) = mn (s * (n - 1)) 0 + lows E S := rfl
      have g : highs (n :: E) (s :: S) = mx (s * (n - 1)) 0 + highs E S := rfl
      rw [l, g]
      unfold mn mx
      constructor <;> split <;> omega
    · intro h y hm
      obtain ⟨x, hx, t, ht, rfl⟩ := mem_dimW.1 hm
      rw [hy x hx t ht]
      have h2 := way_t hs (t := t) (n := n) (by omega) (by omega) hn.2
      have a := h x hx
      have l : lows (n :: E) (s :: S) = mn (s * (n - 1)) 0 + lows E S := rfl
      have g : highs (n :: E) (s :: S) = mx (s * (n - 1)) 0 + highs E S := rfl
      rw [l, g] at a
      omega
theorem mem_plc {b : Int} (h0 : -9223372036854775808 ≤ b) (h1 : b ≤ 9223372036854775807) : ∀ (E S out : List Int), (∀ e ∈ E, 1 ≤ e) → b ∈ out → b ∈ plcW E S out
  | [], S, out, _, h => by simpa [plcW] using h
  | n :: E, [], out, _, h => by simpa [plcW] using h
  | n :: E, s :: S, out, hE, h => by
    rw [plcW]
    have hn := hE n (by simp)
    refine mem_plc h0 h1 E S _ (fun e he => hE e (by simp [he])) (mem_dimW.2 ⟨b, h, 0, by omega, ?_⟩)
    rw [show (((0 : Nat) : Int) * s) = 0 from by simp, w64 (x := 0) (by omega) (by omega), Int.add_zero, w64 h0 h1]
theorem plcW_length : ∀ (E S out : List Int), S.length = E.length → (∀ e ∈ E, 0 ≤ e) → ((plcW E S out).length : Int) = out.length * pr E
  | [], S, out, _, _ => by simp [plcW, pr]
  | n :: E, [], out, h, _ => by simp at h
  | n :: E, s :: S, out, hS, hE => by
    have hn := hE n (by simp)
    rw [plcW, plcW_length E S _ (by simpa using hS) (fun e he => hE e (by simp [he])), dimW_length, pr]
    push_cast
    rw [show (n.toNat : Int) = n from by omega, Int.mul_comm n, Int.mul_assoc]
theorem rowW_zero {out : List Int} (s : Int) (h : ∀ x ∈ out, -9223372036854775808 ≤ x ∧ x ≤ 9223372036854775807) : rowW out s 0 = out := by
  unfold rowW
  rw [Int.zero_mul, w64 (x := 0) (by omega) (by omega)]
  refine (List.map_congr_left fun x hx => ?_).trans (List.map_id _)
  have := h x hx
  rw [Int.add_zero, w64 this.1 this.2]; rfl
theorem rowW_in {out : List Int} {s j y : Int} (h : y ∈ rowW out s j) : -9223372036854775808 ≤ y ∧ y ≤ 9223372036854775807 := by
  unfold rowW at h
  obtain ⟨x, _, rfl⟩ := List.mem_map.1 h
  exact wrap_in _
theorem dimW_in {out : List Int} {s j y : Int} {d : Nat} (h : y ∈ dimW out s d j) : -9223372036854775808 ≤ y ∧ y ≤ 9223372036854775807 := by
  unfold dimW at h
  obtain ⟨t, _, h⟩ := List.mem_flatMap.1 h
  exact rowW_in h
/-- The list of places. -/
def plcR (b : Int) (E S : List Int) : List Int := if pr E = 0 then [] else plcW E S [b]
theorem plcR_length {b : Int} {E S : List Int} (hS : S.length = E.length) (hE : exts E) : ((plcR b E S).length : Int) = pr E := by
  unfold plcR
  by_cases h : pr E = 0
  · rw [if_pos h, h]; rfl
  · rw [if_neg h, plcW_length E S _ hS (fun e he => (hE.2 e he).1)]
    simp
theorem all_plcR {b : Int} {E S : List Int} (hE : exts E) (hS : S.length = E.length) (hN : ∀ s ∈ S, nearS s) (h0 : 0 ≤ b) (h1 : b ≤ 9223372036854775807) :
    (∀ x ∈ plcR b E S, 0 ≤ x ∧ x ≤ 2147483648) ↔ (pr E = 0 ∨ (b ≤ 2147483648 ∧ 0 ≤ b + lows E S ∧ b + highs E S ≤ 2147483648)) := by
  unfold plcR
  by_cases h : pr E = 0
  · simp [h]
  · rw [if_neg h]
    have hp := exts_pos hE h
    have key := fun (hb : b ≤ 2147483648) => all_plc 2147483648 E S [b] 3 (by omega) hE.1 hS (fun e he => ⟨hp e he, (hE.2 e he).2⟩) hN (by
      intro x hx
      simp only [List.mem_cons, List.not_mem_nil, or_false] at hx
      subst hx
      omega)
    constructor
    · intro ha
      have hb := (ha b (mem_plc (by omega) h1 E S [b] hp (by simp))).2
      exact .inr ⟨hb, by simpa using (key hb).1 ha⟩
    · rintro (hz | ⟨hb, hc⟩)
      · exact absurd hz h
      · exact (key hb).2 (by simpa using hc)
/-- The places of a descriptor, and the error. -/
def placesQ (b : Int) (E S : List Int) : List Int := if okD b E S then plcR b E S else []
def errD (b : Int) (E S : List Int) : Int := if okD b E S then 0 else 2
theorem errD_ok {b : Int} {E S : List Int} : errD b E S = 0 ↔ okD b E S := by unfold errD; split <;> simp_all
theorem placesQ_len (b : Int) (E S : List Int) : (placesQ b E S).length ≤ 4000 := by
  unfold placesQ
  split
  · rename_i h
    have := plcR_length (b := b) h.2.2.1 h.1
    have := h.2.1
    omega
  · simp
theorem placesQ_bd {b : Int} {E S : List Int} {x : Int} (hb : b ≤ 9223372036854775807) (h : x ∈ placesQ b E S) : 0 ≤ x ∧ x ≤ 2147483648 := by
  unfold placesQ at h
  split at h
  · rename_i hd
    exact (all_plcR hd.1 hd.2.2.1 hd.2.2.2.2.1 hd.2.2.2.1 hb).2 hd.2.2.2.2.2 x h
  · simp at h
theorem placesQ_nil {b : Int} {E S : List Int} (h : okD b E S) : placesQ b E S = [] ↔ pr E = 0 := by
  have h1 := plcR_length (b := b) h.2.2.1 h.1
  unfold placesQ
  rw [if_pos h]
  constructor
  · intro e; rw [e] at h1; simpa using h1.symm
  · intro e; exact List.length_eq_zero_iff.1 (by omega)
/-- Whether two descriptors have a place in common. -/
def shareQ (a : Int) (E S : List Int) (b : Int) (E' S' : List Int) : Bool := decide (okD a E S ∧ okD b E' S') && (placesQ b E' S').any fun x => (placesQ a E S).contains x
def errDD (a : Int) (E S : List Int) (b : Int) (E' S' : List Int) : Int := if okD a E S ∧ okD b E' S' then 0 else 2
def sizeD (b : Int) (E S : List Int) : Int := if okD b E S then pr E else 0
/-- The strides of an array that lies from 0 on. -/
def wholeS : Int → List Int → List Int
  | _, [] => []
  | a, n :: r => a :: wholeS (a * n) r
theorem wholeS_len : ∀ (a : Int) (E : List Int), (wholeS a E).length = E.length
  | _, [] => rfl
  | a, n :: r => by simp [wholeS, wholeS_len (a * n) r]
def okE (E : List Int) : Prop := exts E ∧ pr E ≤ 4000
instance (E : List Int) : Decidable (okE E) := by unfold okE; infer_instance
def wholeE (E : List Int) : List Int := if okE E then E else []
def wholeT (E : List Int) : List Int := if okE E then wholeS 1 E else []
def errE (E : List Int) : Int := if okE E then 0 else 2
theorem size_neg {E : List Int} : sizeQ E < 0 ↔ ¬ okE E := size_none
end Go.Proofs.Ytnbijiopcgfmfaa.Q
