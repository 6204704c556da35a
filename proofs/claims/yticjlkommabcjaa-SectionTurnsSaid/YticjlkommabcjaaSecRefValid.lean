/- The document's word on valid descriptors, which goes through all places, is the code's, which looks at the ends. -/
import Derived.Test.YticjlkommabcjaaSecPlaces
import Derived.Test.YticjlkommabcjaaPSx12
import Derived.Test.YticjlkommabcjaaPSx13
set_option linter.unusedVariables false
namespace Go.Proofs.Yticjlkommabcjaa.Pure
open Go.RowKit Go.Proofs.YticjlkommabcjaaW.PrintWords Go.Proofs.YticjlkommabcjaaW.PrintMore Go.Proofs.Yticjlkommabcjaa.PS Go.Proofs.Yticjlkommabcjaa.Ar

def in64 (x : Int) : Prop := -9223372036854775808 ≤ x ∧ x ≤ 9223372036854775807
theorem wrap_in (x : Int) : in64 (wrap64 x) := by unfold in64 wrap64; omega

theorem mem_dimW {out : List Int} {s y : Int} {d : Nat} : y ∈ dimW out s d 0 ↔ ∃ x ∈ out, ∃ t : Nat, t < d ∧ y = wrap64 (x + wrap64 ((t : Int) * s)) := by
  unfold dimW rowW
  simp only [List.mem_flatMap, List.mem_range, List.mem_map, Int.zero_add]
  constructor
  · rintro ⟨t, ht, x, hx, rfl⟩
    exact ⟨x, hx, t, ht, rfl⟩
  · rintro ⟨x, hx, t, ht, rfl⟩
    exact ⟨t, ht, x, hx, rfl⟩

theorem way_t {s n t : Int} (hs : nearS s) (h0 : 0 ≤ t) (h1 : t ≤ n - 1) (h2 : n ≤ 4000) : -9000000000000 ≤ t * s ∧ t * s ≤ 9000000000000 ∧ mn (s * (n - 1)) 0 ≤ t * s ∧ t * s ≤ mx (s * (n - 1)) 0 := by
  have hb := mul_bd (a := t) (b := s) (A := 4000) (B := 2147483648) (by omega) (by omega) hs.1 hs.2
  refine ⟨by omega, by omega, ?_⟩
  by_cases hp : 0 ≤ s
  · have h3 : 0 ≤ t * s := Int.mul_nonneg h0 hp
    have h4 : t * s ≤ (n - 1) * s := Int.mul_le_mul_of_nonneg_right h1 hp
    rw [Int.mul_comm s]
    unfold mn mx
    constructor <;> split <;> omega
  · have h3 : t * s ≤ 0 := Int.mul_nonpos_of_nonneg_of_nonpos h0 (by omega)
    have h4 : (n - 1) * s ≤ t * s := Int.mul_le_mul_of_nonpos_right h1 (by omega)
    rw [Int.mul_comm s]
    unfold mn mx
    constructor <;> split <;> omega

theorem all_plc (M : Int) : ∀ (E S out : List Int) (d : Nat), d ≤ 3 → E.length ≤ d → S.length = E.length → (∀ e ∈ E, 1 ≤ e ∧ e ≤ 4000) → (∀ s ∈ S, nearS s) →
    (∀ x ∈ out, -100000000000000 + 10000000000000 * (d : Int) ≤ x ∧ x ≤ 100000000000000 - 10000000000000 * (d : Int)) →
    ((∀ x ∈ plcW E S out, 0 ≤ x ∧ x ≤ M) ↔ (∀ x ∈ out, 0 ≤ x + lows E S ∧ x + highs E S ≤ M))
  | [], S, out, d, _, _, _, _, _, _ => by simp [plcW, lows, highs]
  | _ :: _, [], _, _, _, _, h, _, _, _ => by simp at h
  | n :: E, s :: S, out, 0, _, hl, _, _, _, _ => by simp at hl
  | n :: E, s :: S, out, d + 1, hd, hl, hS, hE, hN, ho => by
    have hn := hE n (by simp)
    have hs := hN s (by simp)
    have hy : ∀ x ∈ out, ∀ t : Nat, t < n.toNat → wrap64 (x + wrap64 ((t : Int) * s)) = x + t * s := by
      intro x hx t ht
      have h1 := ho x hx
      have h2 := way_t hs (t := t) (n := n) (by omega) (by omega) hn.2
      rw [w64 (x := (t : Int) * s) (by omega) (by omega), w64 (by omega) (by omega)]
    rw [plcW, all_plc M E S (dimW out s n.toNat 0) d (by omega) (by simpa using hl) (by simpa using hS) (fun e he => hE e (by simp [he])) (fun e he => hN e (by simp [he])) (by
      intro y hm
      obtain ⟨x, hx, t, ht, rfl⟩ := mem_dimW.1 hm
      rw [hy x hx t ht]
      have h1 := ho x hx
      have h2 := way_t hs (t := t) (n := n) (by omega) (by omega) hn.2
      omega)]
    constructor
    · intro h x hx
      have a := h _ (mem_dimW.2 ⟨x, hx, 0, by omega, rfl⟩)
      have b := h _ (mem_dimW.2 ⟨x, hx, n.toNat - 1, by omega, rfl⟩)
      rw [hy x hx 0 (by omega)] at a
      rw [hy x hx (n.toNat - 1) (by omega), show ((n.toNat - 1 : Nat) : Int) = n - 1 from by omega, Int.mul_comm] at b
      rw [show (((0 : Nat) : Int) * s) = 0 from by simp] at a
      have l : lows (n :: E) (s :: S) = mn (s * (n - 1)) 0 + lows E S := rfl
      have g : highs (n :: E) (s :: S) = mx (s * (n - 1)) 0 + highs E S := rfl
      rw [l, g]
      unfold mn mx
      constructor <;> split <;> omega
    · intro h y hm
      obtain ⟨x, hx, t, ht, rfl⟩ := mem_dimW.1 hm
      rw [hy x hx t ht]
      have h2 := way_t hs (t := t) (n := n) (by omega) (by omega) hn.2
      have a := h x hx
      have l : lows (n :: E) (s :: S) = mn (s * (n - 1)) 0 + lows E S := rfl
      have g : highs (n :: E) (s :: S) = mx (s * (n - 1)) 0 + highs E S := rfl
      rw [l, g] at a
      omega

theorem mem_plc {b : Int} (h0 : -9223372036854775808 ≤ b) (h1 : b ≤ 9223372036854775807) : ∀ (E S out : List Int), (∀ e ∈ E, 1 ≤ e) → b ∈ out → b ∈ plcW E S out
  | [], S, out, _, h => by simpa [plcW] using h
  | n :: E, [], out, _, h => by simpa [plcW] using h
  | n :: E, s :: S, out, hE, h => by
    rw [plcW]
    have hn := hE n (by simp)
    refine mem_plc h0 h1 E S _ (fun e he => hE e (by simp [he])) (mem_dimW.2 ⟨b, h, 0, by omega, ?_⟩)
    rw [show (((0 : Nat) : Int) * s) = 0 from by simp, w64 (x := 0) (by omega) (by omega), Int.add_zero, w64 h0 h1]

theorem plcW_length : ∀ (E S out : List Int), S.length = E.length → (∀ e ∈ E, 0 ≤ e) → ((plcW E S out).length : Int) = out.length * pr E
  | [], S, out, _, _ => by simp [plcW, pr]
  | n :: E, [], out, h, _ => by simp at h
  | n :: E, s :: S, out, hS, hE => by
    have hn := hE n (by simp)
    rw [plcW, plcW_length E S _ (by simpa using hS) (fun e he => hE e (by simp [he])), dimW_length, pr]
    push_cast
    rw [show (n.toNat : Int) = n from by omega, Int.mul_comm n, Int.mul_assoc]

theorem plcR_length {b : Int} {E S : List Int} (hS : S.length = E.length) (hE : exts E) : ((plcR b E S).length : Int) = prod E := by
  unfold plcR
  by_cases h : prod E = 0
  · rw [if_pos h, h]; rfl
  · rw [if_neg h, plcW_length E S _ hS (fun e he => (hE.2 e he).1), prod_pr]
    simp

theorem all_plcR {b : Int} {E S : List Int} (hE : exts E) (hS : S.length = E.length) (hN : ∀ s ∈ S, nearS s) (h0 : 0 ≤ b) (h1 : b ≤ 9223372036854775807) :
    (∀ x ∈ plcR b E S, 0 ≤ x ∧ x ≤ 2147483648) ↔ (prod E = 0 ∨ (b ≤ 2147483648 ∧ 0 ≤ b + lows E S ∧ b + highs E S ≤ 2147483648)) := by
  unfold plcR
  by_cases h : prod E = 0
  · simp [h]
  · rw [if_neg h]
    have hp := exts_pos hE h
    have key := fun (hb : b ≤ 2147483648) => all_plc 2147483648 E S [b] 3 (by omega) hE.1 hS (fun e he => ⟨hp e he, (hE.2 e he).2⟩) hN (by
      intro x hx
      simp only [List.mem_cons, List.not_mem_nil, or_false] at hx
      subst hx
      omega)
    constructor
    · intro ha
      have hb := (ha b (mem_plc (by omega) h1 E S [b] hp (by simp))).2
      exact .inr ⟨hb, by simpa using (key hb).1 ha⟩
    · rintro (hz | ⟨hb, hc⟩)
      · exact absurd hz h
      · exact (key hb).2 (by simpa using hc)

theorem rv_l1 (L : List Int) (hL : L.length ≤ 4000) : ∀ (d k : Nat) (i : Int), 0 ≤ i → i + d = L.length → quadratref06_Valid.l1 (k + d + 1) L i = some (decide (∀ x ∈ L.drop i.toNat, 0 ≤ x ∧ x ≤ 2147483648)) := by
  intro d
  induction d with
  | zero =>
    intro k i h0 h1
    rw [show k + 0 + 1 = k + 1 from rfl, quadratref06_Valid.l1, if_neg (by omega), List.drop_eq_nil_of_le (by omega)]
    simp
  | succ d ih =>
    intro k i h0 h1
    rw [show k + (d + 1) + 1 = (k + d + 1) + 1 from by omega, quadratref06_Valid.l1, if_pos (by omega), if_pos h0, w64 (x := i + 1) (by omega) (by omega), ih k (i + 1) (by omega) (by omega), drop_rd h0 (by omega)]
    by_cases h2 : rd L i < 0
    · rw [if_pos h2]
      congr 1
      symm
      rw [decide_eq_false_iff_not]
      exact fun h => by have := h (rd L i) (by simp); omega
    · rw [if_neg h2]
      by_cases h3 : rd L i > 2147483648
      · rw [if_pos h3]
        congr 1
        symm
        rw [decide_eq_false_iff_not]
        exact fun h => by have := h (rd L i) (by simp); omega
      · rw [if_neg h3]
        congr 1
        rw [Bool.eq_iff_iff, decide_eq_true_eq, decide_eq_true_eq, List.forall_mem_cons]
        exact ⟨fun h => ⟨by omega, h⟩, fun h => h.2⟩

theorem rv_l0 (b : Int) (E S : List Int) (hS : S.length ≤ 3) : ∀ (d k : Nat) (i : Int), 0 ≤ i → i + d = S.length →
    quadratref06_Valid.l0 (k + d + 1) i b E S = if ∀ s ∈ S.drop i.toNat, nearS s then (quadratref06_places.f k b E S).bind (fun t => quadratref06_Valid.l1 k t 0) else some false := by
  intro d
  induction d with
  | zero =>
    intro k i h0 h1
    rw [show k + 0 + 1 = k + 1 from rfl, quadratref06_Valid.l0, if_neg (by omega), if_pos]
    rw [List.drop_eq_nil_of_le (by omega)]
    simp
  | succ d ih =>
    intro k i h0 h1
    rw [show k + (d + 1) + 1 = (k + d + 1) + 1 from by omega, quadratref06_Valid.l0, if_pos (by omega), if_pos h0, near_r, w64 (x := i + 1) (by omega) (by omega), ih k (i + 1) (by omega) (by omega), drop_rd h0 (by omega)]
    simp only [Option.bind_some, decide_eq_true_eq, List.forall_mem_cons]
    by_cases h2 : nearS (rd S i)
    · have h2' := h2
      unfold nearS at h2'
      rw [if_pos h2']
      by_cases h3 : ∀ s ∈ S.drop (i + 1).toNat, nearS s
      · rw [if_pos h3, if_pos ⟨h2, h3⟩]
      · rw [if_neg h3, if_neg (fun h => h3 h.2)]
    · have h2' := h2
      unfold nearS at h2'
      rw [if_neg h2', if_neg (fun h => h2 h.1)]

theorem valid_r (b : Int) (E S : List Int) (hb : b ≤ 9223372036854775807) (k : Nat) (hk : 50000 ≤ k) : quadratref06_Valid.f k b E S = some (decide (okD b E S)) := by
  refine at_rounds (fun k => quadratref06_Valid.mono _ _ _ k) hk ?_
  unfold quadratref06_Valid.f
  have hj : ∀ k, quadratref06_Valid.j0 (k + 1) true b E S = some false := fun k => by rw [quadratref06_Valid.j0, if_pos rfl]
  by_cases h0 : b < 0
  · rw [if_pos h0, hj 49999]
    congr 1
    symm
    rw [decide_eq_false_iff_not]
    exact fun h => by have := h.2.2.2.1; omega
  · rw [if_neg h0]
    by_cases h2 : (S.length : Int) = E.length
    · rw [if_pos h2, size_r E _ (by omega)]
      simp only [Option.bind_some]
      by_cases h1 : sizeOf' E < 0
      · rw [decide_eq_true h1, hj 49999]
        congr 1
        symm
        rw [decide_eq_false_iff_not]
        exact fun h => size_none.1 h1 ⟨h.1, h.2.1⟩
      · rw [decide_eq_false h1]
        obtain ⟨hE, hp⟩ : exts E ∧ prod E ≤ 4000 := Decidable.byContradiction fun hc => h1 (size_none.2 hc)
        have hS : S.length = E.length := by omega
        have hl := hE.1
        rw [show (50000 : Nat) = 49999 + 1 from rfl, quadratref06_Valid.j0, if_neg (by decide), show (49999 : Nat) = ((49998 - S.length) + S.length) + 1 from by omega, rv_l0 b E S (by omega) S.length _ 0 (by omega) (by omega), Int.toNat_zero, List.drop_zero]
        by_cases h4 : ∀ s ∈ S, nearS s
        · have hlen := plcR_length (b := b) (S := S) hS hE
          rw [if_pos h4, places_r hE hp hS _ (by omega), Option.bind_some, show (49998 - S.length) = ((49997 - S.length - (plcR b E S).length) + (plcR b E S).length) + 1 from by omega, rv_l1 _ (by omega) (plcR b E S).length _ 0 (by omega) (by omega), Int.toNat_zero, List.drop_zero]
          congr 1
          rw [Bool.eq_iff_iff, decide_eq_true_eq, decide_eq_true_eq, all_plcR hE hS h4 (by omega) hb]
          exact ⟨fun h => ⟨hE, hp, hS, by omega, h4, h⟩, fun h => h.2.2.2.2.2⟩
        · rw [if_neg h4]
          congr 1
          symm
          rw [decide_eq_false_iff_not]
          exact fun h => h4 h.2.2.2.2.1
    · rw [if_neg h2, hj 49999]
      congr 1
      symm
      rw [decide_eq_false_iff_not]
      exact fun h => by have := h.2.2.1; omega
end Go.Proofs.Yticjlkommabcjaa.Pure
