/- The document's list of places, and its word on valid descriptors. -/
import Derived.Test.YticjlkommabcjaaSecValid
import Derived.Test.YticjlkommabcjaaPSx12
set_option linter.unusedVariables false
namespace Go.Proofs.Yticjlkommabcjaa.Pure
open Go.RowKit Go.Proofs.YticjlkommabcjaaW.PrintWords Go.Proofs.YticjlkommabcjaaW.PrintMore Go.Proofs.Yticjlkommabcjaa.PS Go.Proofs.Yticjlkommabcjaa.Ar

def pr : List Int → Int
  | [] => 1
  | e :: E => e * pr E
theorem foldl_pr : ∀ (E : List Int) (a : Int), E.foldl (· * ·) a = a * pr E
  | [], a => by simp [pr]
  | e :: E, a => by rw [List.foldl_cons, foldl_pr E, pr, Int.mul_assoc]
theorem prod_pr (E : List Int) : prod E = pr E := by unfold prod; rw [foldl_pr, Int.one_mul]
theorem pr_pos : ∀ {E : List Int}, (∀ e ∈ E, 1 ≤ e) → 1 ≤ pr E
  | [], _ => by simp [pr]
  | e :: E, h => by
    have h1 := h e (by simp)
    have h2 := pr_pos (E := E) (fun x hx => h x (by simp [hx]))
    have := Int.mul_le_mul h1 h2 (by omega) (by omega)
    rw [pr]
    omega
theorem pr_zero : ∀ {E : List Int}, pr E = 0 → (∀ e ∈ E, 0 ≤ e) → ∃ e ∈ E, e = 0
  | [], h, _ => by simp [pr] at h
  | e :: E, h, h0 => by
    rw [pr] at h
    rcases Int.mul_eq_zero.1 h with h | h
    · exact ⟨e, by simp, h⟩
    · obtain ⟨x, hx, hz⟩ := pr_zero h (fun x hx => h0 x (by simp [hx]))
      exact ⟨x, by simp [hx], hz⟩
theorem exts_pos {E : List Int} (h : exts E) (h0 : prod E ≠ 0) : ∀ e ∈ E, 1 ≤ e := by
  intro e he
  have := h.2 e he
  refine Decidable.byContradiction fun hc => h0 ?_
  rw [prod_pr]
  have hz : e = 0 := by omega
  subst hz
  clear this hc h h0
  induction E with
  | nil => simp at he
  | cons x E ih =>
    rw [pr]
    rcases List.mem_cons.1 he with rfl | he
    · simp
    · rw [ih he, Int.mul_zero]

/-- One row of places, moved j ways on. -/
def rowW (out : List Int) (s j : Int) : List Int := out.map fun x => wrap64 (x + wrap64 (j * s))
def dimW (out : List Int) (s : Int) (d : Nat) (j : Int) : List Int := (List.range d).flatMap fun t : Nat => rowW out s (j + t)
def plcW : List Int → List Int → List Int → List Int
  | n :: E, s :: S, out => plcW E S (dimW out s n.toNat 0)
  | _, _, out => out
theorem dimW_zero (out : List Int) (s j : Int) : dimW out s 0 j = [] := by simp [dimW]
theorem dimW_succ (out : List Int) (s : Int) (d : Nat) (j : Int) : dimW out s (d + 1) j = rowW out s j ++ dimW out s d (j + 1) := by
  unfold dimW
  rw [List.range_succ_eq_map, List.flatMap_cons, List.flatMap_map]
  congr 1
  · simp
  · congr 1
    funext t
    congr 1
    push_cast
    omega
theorem rowW_length (out : List Int) (s j : Int) : (rowW out s j).length = out.length := by simp [rowW]
theorem dimW_length (out : List Int) (s : Int) : ∀ (d : Nat) (j : Int), (dimW out s d j).length = d * out.length
  | 0, j => by simp [dimW]
  | d + 1, j => by rw [dimW_succ, List.length_append, rowW_length, dimW_length out s d, Nat.succ_mul]; omega
theorem rowW_drop {out : List Int} {s j : Int} {n : Int} (h0 : 0 ≤ n) (h1 : n < out.length) : rowW (out.drop n.toNat) s j = wrap64 (rd out n + wrap64 (j * s)) :: rowW (out.drop (n + 1).toNat) s j := by
  rw [drop_rd h0 h1]
  rfl

theorem plc_l2 (b : Int) (E S x3 : List Int) (i j : Int) (hi : 0 ≤ i) (hiS : i < S.length) (hx : x3.length ≤ 4000) : ∀ (d k : Nat) (x5 : List Int) (n : Int), 0 ≤ n → n + d = x3.length → x5.length + d ≤ 4000 →
    quadratref06_places.l2 (k + d + 1) x3 i x5 j n b E S = quadratref06_places.l1 k x3 i (x5 ++ rowW (x3.drop n.toNat) (rd S i) j) (wrap64 (j + 1)) b E S := by
  intro d
  induction d with
  | zero =>
    intro k x5 n h0 h1 h2
    rw [show k + 0 + 1 = k + 1 from rfl, quadratref06_places.l2, if_neg (by omega), List.drop_eq_nil_of_le (by omega)]
    simp [rowW]
  | succ d ih =>
    intro k x5 n h0 h1 h2
    rw [show k + (d + 1) + 1 = (k + d + 1) + 1 from by omega, quadratref06_places.l2, if_pos (show n < (x3.length : Int) by omega), if_pos h0, if_pos hi, if_pos hiS, if_pos (show x5.length < 17592186044416 by omega),
      w64 (x := n + 1) (by omega) (by omega), ih k _ (n + 1) (by omega) (by omega) (by rw [List.length_append]; simp only [List.length_cons, List.length_nil]; omega), rowW_drop h0 (by omega), List.append_assoc]
    rfl

theorem plc_l1 (b : Int) (E S x3 : List Int) (i : Int) (hi : 0 ≤ i) (hiE : i < E.length) (hiS : i < S.length) (hx : x3.length ≤ 4000) (hN : rd E i ≤ 4000) : ∀ (d k : Nat) (x5 : List Int) (j : Int), 0 ≤ j → j + d = rd E i → x5.length + d * x3.length ≤ 4000 →
    quadratref06_places.l1 (k + d * (x3.length + 2) + 1) x3 i x5 j b E S = quadratref06_places.l0 k (x5 ++ dimW x3 (rd S i) d j) (wrap64 (i + 1)) b E S := by
  intro d
  induction d with
  | zero =>
    intro k x5 j h0 h1 h2
    rw [show k + 0 * (x3.length + 2) + 1 = k + 1 from by omega, quadratref06_places.l1, if_pos hi, if_pos hiE, if_neg (by omega), dimW_zero, List.append_nil]
  | succ d ih =>
    intro k x5 j h0 h1 h2
    rw [Nat.succ_mul] at h2
    rw [show k + (d + 1) * (x3.length + 2) + 1 = ((k + d * (x3.length + 2) + 1) + x3.length + 1) + 1 from by rw [Nat.succ_mul]; omega, quadratref06_places.l1, if_pos hi, if_pos hiE, if_pos (by omega),
      plc_l2 b E S x3 i j hi hiS hx x3.length _ x5 0 (by omega) (by omega) (by omega), w64 (x := j + 1) (by omega) (by omega),
      ih k _ (j + 1) (by omega) (by omega) (by rw [List.length_append, Int.toNat_zero, List.drop_zero, rowW_length]; omega), Int.toNat_zero, List.drop_zero, dimW_succ, List.append_assoc]

theorem mul_one_le {a b c : Int} (ha : 0 ≤ a) (hb : 1 ≤ b) (h : a * b ≤ c) : a ≤ c := by
  have := Int.mul_le_mul_of_nonneg_left hb ha
  omega
theorem plc_l0 (b : Int) (E S : List Int) (hE : ∀ e ∈ E, 1 ≤ e ∧ e ≤ 4000) (hl : E.length ≤ 3) (hS : S.length = E.length) : ∀ (d : Nat) (x3 : List Int) (i : Int), 0 ≤ i → i + d = E.length → (x3.length : Int) * pr (E.drop i.toNat) ≤ 4000 →
    ∃ K, K ≤ 1 + d * 12003 ∧ quadratref06_places.l0 K x3 i b E S = some (plcW (E.drop i.toNat) (S.drop i.toNat) x3) := by
  intro d
  induction d with
  | zero =>
    intro x3 i h0 h1 h2
    refine ⟨1, by omega, ?_⟩
    rw [quadratref06_places.l0, if_neg (by omega), List.drop_eq_nil_of_le (by omega)]
    simp [plcW]
  | succ d ih =>
    intro x3 i h0 h1 h2
    have hiE : i < (E.length : Int) := by omega
    have hiS : i < (S.length : Int) := by omega
    obtain ⟨e0, e1⟩ := hE _ (rd_mem h0 hiE)
    have hp : 1 ≤ pr (E.drop (i + 1).toNat) := pr_pos fun e he => (hE e (List.mem_of_mem_drop he)).1
    rw [drop_rd h0 hiE, pr, ← Int.mul_assoc] at h2
    have h3 : (x3.length : Int) * rd E i ≤ 4000 := mul_one_le (Int.mul_nonneg (by omega) (by omega)) hp h2
    have h4 : (x3.length : Int) ≤ 4000 := mul_one_le (by omega) e0 h3
    have e : ((rd E i).toNat : Int) = rd E i := by omega
    have h5 : (rd E i).toNat * x3.length ≤ 4000 := by
      have : (((rd E i).toNat * x3.length : Nat) : Int) ≤ 4000 := by push_cast; rw [e, Int.mul_comm]; exact h3
      omega
    obtain ⟨K, hK, h⟩ := ih (dimW x3 (rd S i) (rd E i).toNat 0) (i + 1) (by omega) (by omega) (by
      rw [dimW_length]
      push_cast
      rw [e, Int.mul_comm (rd E i)]
      exact h2)
    refine ⟨(K + (rd E i).toNat * (x3.length + 2) + 1) + 1, by rw [Nat.mul_add]; omega, ?_⟩
    rw [quadratref06_places.l0, if_pos hiE, plc_l1 b E S x3 i h0 hiE hiS (by omega) e1 (rd E i).toNat K [] 0 (by omega) (by omega) (by simp only [List.length_nil]; omega), w64 (x := i + 1) (by omega) (by omega), List.nil_append, h, drop_rd h0 hiE, drop_rd (l := S) h0 hiS, plcW]

/-- The document's list of places. -/
def plcR (b : Int) (E S : List Int) : List Int := if prod E = 0 then [] else plcW E S [b]
theorem places_r {b : Int} {E S : List Int} (hE : exts E) (hp : prod E ≤ 4000) (hS : S.length = E.length) (k : Nat) (hk : 40000 ≤ k) : quadratref06_places.f k b E S = some (plcR b E S) := by
  refine at_rounds (fun k => quadratref06_places.mono _ _ _ k) hk ?_
  unfold quadratref06_places.f
  rw [size_r E _ (by omega)]
  have hs : sizeOf' E = prod E := by unfold sizeOf'; rw [if_pos ⟨hE, hp⟩]
  simp only [Option.bind_some, hs]
  unfold plcR
  by_cases h0 : prod E = 0
  · rw [if_pos h0, if_pos h0]
  · rw [if_neg h0, if_neg h0]
    have h1 := exts_pos hE h0
    obtain ⟨K, hK, h⟩ := plc_l0 b E S (fun e he => ⟨h1 e he, (hE.2 e he).2⟩) hE.1 hS E.length [b] 0 (by omega) (by omega) (by
      rw [Int.toNat_zero, List.drop_zero, ← prod_pr]
      simp only [List.length_cons, List.length_nil]
      omega)
    rw [Int.toNat_zero, List.drop_zero, List.drop_zero] at h
    exact at_rounds (fun k => (quadratref06_places.mono_l k).1 _ _ _ _ _) (by have := hE.1; omega) h
end Go.Proofs.Yticjlkommabcjaa.Pure
