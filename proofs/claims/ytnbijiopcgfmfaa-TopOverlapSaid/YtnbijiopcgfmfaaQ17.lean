/- Refs' places in plain numbers: which extents are right, where an iteration's place lies, the least and the greatest place. -/
import Derived.Test.YtnbijiopcgfmfaaQAr
import Derived.Test.YtnbijiopcgfmfaaQGd
set_option linter.unusedVariables false
set_option linter.unusedSimpArgs false
set_option linter.unusedSectionVars false
namespace Go.Proofs.Ytnbijiopcgfmfaa.Q
open Go
def x4 (e : Int) : Prop := 0 ≤ e ∧ e ≤ 400
instance (e : Int) : Decidable (x4 e) := by unfold x4; infer_instance
def extX (E : List Int) : Prop := (1 ≤ E.length ∧ E.length ≤ 3) ∧ ∀ e ∈ E, x4 e
instance (E : List Int) : Decidable (extX E) := by unfold extX; infer_instance
def okX (E : List Int) : Prop := extX E ∧ pr E ≤ 400
instance (E : List Int) : Decidable (okX E) := by unfold okX; infer_instance
/-- How many iterations extents have; -1: they are none. -/
def manyQ (E : List Int) : Int := if okX E then pr E else -1
theorem many_neg {E : List Int} : manyQ E < 0 ↔ ¬ okX E := by
  unfold manyQ
  by_cases h : okX E
  · have := pr_nonneg fun e he => (h.1.2 e he).1
    rw [if_pos h]; simp only [h, not_true_eq_false, iff_false]; omega
  · rw [if_neg h]; simp [h]
theorem many_some {E : List Int} (h : okX E) : manyQ E = pr E := if_pos h
theorem okX_pos {E : List Int} (h : okX E) (h0 : pr E ≠ 0) : ∀ e ∈ E, 1 ≤ e ∧ e ≤ 400 := by
  intro e he
  have := h.1.2 e he
  unfold x4 at this
  refine ⟨Decidable.byContradiction fun hc => h0 ?_, this.2⟩
  have hz : e = 0 := by omega
  subst hz
  exact pr_of_zero he
def okR (b : Int) (E S : List Int) : Prop := okX E ∧ S.length = E.length ∧ near b ∧ allN S
instance (b : Int) (E S : List Int) : Decidable (okR b E S) := by unfold okR; infer_instance
def errR (b : Int) (E S : List Int) : Int := if okR b E S then 0 else 2
def errRR (a : Int) (E S : List Int) (b : Int) (S' : List Int) : Int := if okR a E S ∧ okR b E S' then 0 else 2
def placesR (b : Int) (E S : List Int) : List Int := if okR b E S then plcR b E S else []
def X4 : Nat → Int
  | 0 => 1
  | 1 => 400
  | 2 => 160000
  | _ => 64000000
theorem X4_le (n : Nat) : X4 n ≤ 64000000 := by unfold X4; split <;> omega
theorem X4_step {n : Nat} {a e : Int} (hn : n < 3) (h0 : 0 ≤ a) (h1 : a ≤ X4 n) (e0 : 0 ≤ e) (e1 : e ≤ 400) : 0 ≤ a * e ∧ a * e ≤ X4 (n + 1) := by
  refine ⟨Int.mul_nonneg h0 e0, ?_⟩
  have hm : a * e ≤ X4 n * 400 := Int.mul_le_mul h1 e1 e0 (by unfold X4; split <;> omega)
  have : n = 0 ∨ n = 1 ∨ n = 2 := by omega
  rcases this with rfl | rfl | rfl <;> simp only [X4] at hm ⊢ <;> omega
theorem way4 {s n : Int} (hs : near s) (h0 : 0 ≤ n) (h1 : n ≤ 400) : -400000000 ≤ s * (n - 1) ∧ s * (n - 1) ≤ 400000000 := by
  unfold near at hs
  have := mul_bd (A := 1000000) (B := 400) hs.1 hs.2 (show -400 ≤ n - 1 by omega) (by omega)
  omega
theorem mul4 {s n : Int} (hs : near s) (h0 : 0 ≤ n) (h1 : n ≤ 400) : -400000000 ≤ n * s ∧ n * s ≤ 400000000 := by
  unfold near at hs
  have := mul_bd (a := n) (b := s) (A := 400) (B := 1000000) (by omega) (by omega) hs.1 hs.2
  omega
theorem near_S {s : Int} (h : near s) : nearS s := by unfold near at h; unfold nearS; omega
/-- The subscripts of an iteration. -/
def subsQ : List Int → Int → List Int
  | [], _ => []
  | e :: E, n => Int.tmod n e :: subsQ E (Int.tdiv n e)
def dotQ : List Int → List Int → Int
  | x :: l, s :: S => x * s + dotQ l S
  | _, _ => 0
theorem subsQ_len : ∀ (E : List Int) (n : Int), (subsQ E n).length = E.length
  | [], _ => rfl
  | e :: E, n => by simp [subsQ, subsQ_len E]
theorem flat_range {α : Type} (f : Nat → List α) (e : Nat) : ∀ P : Nat, (List.range (P * e)).flatMap f = (List.range P).flatMap fun n => (List.range e).flatMap fun t => f (n * e + t)
  | 0 => by simp
  | P + 1 => by
    rw [Nat.add_mul, Nat.one_mul, List.range_add, List.flatMap_append, flat_range f e P, List.range_succ, List.flatMap_append]
    simp [List.flatMap_map]
theorem row_nw {out : List Int} {s j : Int} (h : ∀ x ∈ out, -9000000000 ≤ x + j * s ∧ x + j * s ≤ 9000000000) (hs : -9000000000 ≤ j * s ∧ j * s ≤ 9000000000) : rowW out s j = out.map fun x => x + j * s := by
  unfold rowW
  refine List.map_congr_left fun x hx => ?_
  have := h x hx
  rw [w64 (x := j * s) (by omega) (by omega), w64 (by omega) (by omega)]
theorem subs_step {e : Int} {n t : Nat} (h1 : (t : Int) < e) (E : List Int) (ne : Nat) (hne : (ne : Int) = e) : subsQ (e :: E) ((n * ne + t : Nat) : Int) = (t : Int) :: subsQ E n := by
  have c : ((n * ne + t : Nat) : Int) = (n : Int) * e + t := by rw [Int.natCast_add, Int.natCast_mul, hne]
  have mc : 0 ≤ (n : Int) * e := Int.mul_nonneg (by omega) (by omega)
  have w1 : Int.tmod ((n : Int) * e + t) e = t := by
    rw [Int.tmod_eq_emod_of_nonneg (by omega), Int.add_comm, Int.add_mul_emod_self_right, Int.emod_eq_of_lt (by omega) h1]
  have w2 : Int.tdiv ((n : Int) * e + t) e = n := by
    rw [Int.tdiv_eq_ediv_of_nonneg (by omega), Int.add_comm, Int.add_mul_ediv_right _ _ (by omega), Int.ediv_eq_zero_of_lt (by omega) h1]; omega
  rw [subsQ, c, w1, w2]
theorem flat_congr {α β : Type} {f g : α → List β} : ∀ {l : List α}, (∀ x ∈ l, f x = g x) → l.flatMap f = l.flatMap g
  | [], _ => rfl
  | x :: l, h => by rw [List.flatMap_cons, List.flatMap_cons, h x (by simp), flat_congr fun y hy => h y (by simp [hy])]
/-- The places, iteration by iteration. -/
theorem plcW_map : ∀ (E S out : List Int) (d : Nat), E.length ≤ d → d ≤ 3 → S.length = E.length → (∀ e ∈ E, 1 ≤ e ∧ e ≤ 400) → allN S → (∀ x ∈ out, -5000000000 + 1000000000 * (d : Int) ≤ x ∧ x ≤ 5000000000 - 1000000000 * (d : Int)) →
    plcW E S out = (List.range (pr E).toNat).flatMap fun n : Nat => out.map fun x => x + dotQ (subsQ E (n : Int)) S
  | [], S, out, d, _, _, _, _, _, _ => by
    show out = (List.range 1).flatMap fun n : Nat => out.map fun x => x + dotQ (subsQ [] (n : Int)) S
    simp [subsQ, dotQ]
  | n :: E, [], out, d, _, _, h, _, _, _ => by simp at h
  | n :: E, s :: S, out, 0, h, _, _, _, _, _ => by simp at h
  | n :: E, s :: S, out, d + 1, hl, hd, hS, hE, hN, ho => by
    have hn := hE n (by simp)
    have hs := hN s (by simp)
    have hp : 1 ≤ pr E := pr_pos fun e he => (hE e (by simp [he])).1
    obtain ⟨P, hP⟩ : ∃ P : Nat, pr E = P := ⟨(pr E).toNat, by omega⟩
    obtain ⟨m, hm⟩ : ∃ m : Nat, n = m := ⟨n.toNat, by omega⟩
    have hrow : ∀ t : Nat, t < m → rowW out s (0 + (t : Int)) = out.map fun x => x + (t : Int) * s := by
      intro t ht
      have m4 := mul4 hs (show (0 : Int) ≤ t by omega) (show (t : Int) ≤ 400 by omega)
      rw [Int.zero_add]
      exact row_nw (fun x hx => by have := ho x hx; omega) (by omega)
    have hdim : dimW out s m 0 = (List.range m).flatMap fun t : Nat => out.map fun x => x + (t : Int) * s := by
      unfold dimW
      exact flat_congr fun t ht => hrow t (List.mem_range.1 ht)
    have hb : ∀ x ∈ dimW out s m 0, -5000000000 + 1000000000 * (d : Int) ≤ x ∧ x ≤ 5000000000 - 1000000000 * (d : Int) := by
      intro y hy
      rw [hdim] at hy
      simp only [List.mem_flatMap, List.mem_range, List.mem_map] at hy
      obtain ⟨t, ht, x, hx, rfl⟩ := hy
      have m4 := mul4 hs (show (0 : Int) ≤ t by omega) (show (t : Int) ≤ 400 by omega)
      have := ho x hx
      omega
    rw [plcW, show n.toNat = m by omega, plcW_map E S (dimW out s m 0) d (by simpa using hl) (by omega) (by simpa using hS) (fun e he => hE e (by simp [he])) (fun x hx => hN x (by simp [hx])) hb]
    have eP : (pr (n :: E)).toNat = P * m := by rw [pr, hP, hm, ← Int.natCast_mul, Int.toNat_natCast, Nat.mul_comm]
    rw [eP, flat_range, hP, Int.toNat_natCast]
    refine flat_congr fun k hk => ?_
    rw [hdim, List.map_flatMap]
    refine flat_congr fun t ht => ?_
    rw [List.mem_range] at ht
    rw [subs_step (by omega) E m hm.symm, List.map_map]
    refine List.map_congr_left fun x hx => ?_
    simp only [Function.comp, dotQ]
    omega
theorem placesR_eq {b : Int} {E S : List Int} (h : okR b E S) : placesR b E S = (List.range (pr E).toNat).map fun n : Nat => b + dotQ (subsQ E (n : Int)) S := by
  unfold placesR plcR
  rw [if_pos h]
  obtain ⟨h1, h2, h3, h4⟩ := h
  by_cases h0 : pr E = 0
  · rw [if_pos h0, h0]; rfl
  · unfold near at h3
    rw [if_neg h0, plcW_map E S [b] 3 h1.1.1.2 (by omega) h2 (okX_pos h1 h0) h4 (by intro x hx; simp at hx; subst hx; omega)]
    simp [List.flatMap_singleton', List.flatMap, List.map_map]
    induction List.range (pr E).toNat with
    | nil => rfl
    | cons a l ih => simp [ih]
theorem placesR_length {b : Int} {E S : List Int} (h : okR b E S) : ((placesR b E S).length : Int) = pr E := by
  rw [placesR_eq h]
  have := pr_nonneg fun e he => (h.1.1.2 e he).1
  simp; omega
/-- An iteration's way, and its bounds. -/
theorem dot_bd : ∀ (E S : List Int), S.length = E.length → (∀ e ∈ E, 1 ≤ e ∧ e ≤ 400) → allN S → ∀ n : Nat, (n : Int) < pr E → lows E S ≤ dotQ (subsQ E n) S ∧ dotQ (subsQ E n) S ≤ highs E S
  | [], [], _, _, _, n, _ => by simp [lows, highs, subsQ, dotQ]
  | [], _ :: _, h, _, _, _, _ => by simp at h
  | _ :: _, [], h, _, _, _, _ => by simp at h
  | e :: E, s :: S, hS, hE, hN, n, hn => by
    have he := hE e (by simp)
    obtain ⟨m, hm⟩ : ∃ m : Nat, e = m := ⟨e.toNat, by omega⟩
    rw [pr] at hn
    have e1 : n = (n / m) * m + n % m := by rw [Nat.mul_comm]; exact (Nat.div_add_mod n m).symm
    have hlt : n % m < m := Nat.mod_lt _ (by omega)
    have hq : ((n / m : Nat) : Int) < pr E := by
      have hp : 0 ≤ pr E := pr_nonneg fun x hx => by have := hE x (by simp [hx]); omega
      have hk : n < m * (pr E).toNat := by
        have hk : (n : Int) < ((m * (pr E).toNat : Nat) : Int) := by rw [Int.natCast_mul, Int.toNat_of_nonneg hp, ← hm]; exact hn
        exact Int.ofNat_lt.1 hk
      have hk2 := Nat.div_lt_of_lt_mul hk
      generalize n / m = z at hk2 ⊢
      omega
    have ih := dot_bd E S (by simpa using hS) (fun x hx => hE x (by simp [hx])) (fun x hx => hN x (by simp [hx])) (n / m) hq
    have hsub : subsQ (e :: E) n = ((n % m : Nat) : Int) :: subsQ E ((n / m : Nat) : Int) := by
      have := subs_step (e := e) (n := n / m) (t := n % m) (by omega) E m hm.symm
      rw [← e1] at this; exact this
    have hw := way_t (near_S (hN s (by simp))) (t := ((n % m : Nat) : Int)) (n := e) (by omega) (by omega) (by omega)
    rw [hsub]
    simp only [dotQ, lows, highs]
    omega
theorem dot_at (b : Bool) : ∀ (E S : List Int), S.length = E.length → (∀ e ∈ E, 1 ≤ e ∧ e ≤ 400) → ∃ n : Nat, (n : Int) < pr E ∧ dotQ (subsQ E n) S = if b then lows E S else highs E S
  | [], [], _, _ => ⟨0, by simp [pr], by cases b <;> simp [lows, highs, subsQ, dotQ]⟩
  | [], _ :: _, h, _ => by simp at h
  | _ :: _, [], h, _ => by simp at h
  | e :: E, s :: S, hS, hE => by
    have he := hE e (by simp)
    obtain ⟨m, hm⟩ : ∃ m : Nat, e = m := ⟨e.toNat, by omega⟩
    obtain ⟨n, h1, h2⟩ := dot_at b E S (by simpa using hS) (fun x hx => hE x (by simp [hx]))
    have hp : 0 ≤ pr E := pr_nonneg fun x hx => by have := hE x (by simp [hx]); omega
    obtain ⟨P, hP⟩ : ∃ P : Nat, pr E = P := ⟨(pr E).toNat, by omega⟩
    have key : ∀ t : Nat, t < m → (((n * m + t : Nat) : Int) < pr (e :: E)) ∧ dotQ (subsQ (e :: E) ((n * m + t : Nat) : Int)) (s :: S) = (t : Int) * s + dotQ (subsQ E n) S := by
      intro t ht
      refine ⟨?_, ?_⟩
      · rw [pr, hP, hm, ← Int.natCast_mul]
        have h3 : n + 1 ≤ P := by omega
        have h4 := Nat.mul_le_mul_right m h3
        rw [Nat.add_mul, Nat.mul_comm P] at h4
        omega
      · rw [subs_step (by omega) E m hm.symm]; rfl
    have k0 := key 0 (by omega)
    have k1 := key (m - 1) (by omega)
    rw [show (((m - 1 : Nat) : Int)) = e - 1 by omega, Int.mul_comm] at k1
    rw [show ((0 : Nat) : Int) * s = 0 by simp] at k0
    cases b with
    | true =>
      simp only [if_true, lows] at h2 ⊢
      unfold mn
      split
      · exact ⟨_, k0.1, by omega⟩
      · exact ⟨_, k1.1, by omega⟩
    | false =>
      simp only [Bool.false_eq_true, if_false, highs] at h2 ⊢
      unfold mx
      split
      · exact ⟨_, k0.1, by omega⟩
      · exact ⟨_, k1.1, by omega⟩
theorem lh_bd : ∀ (E S : List Int), (∀ e ∈ E, 0 ≤ e ∧ e ≤ 400) → allN S → -400000000 * (E.length : Int) ≤ lows E S ∧ lows E S ≤ 0 ∧ 0 ≤ highs E S ∧ highs E S ≤ 400000000 * (E.length : Int)
  | [], S, _, _ => by simp [lows, highs]
  | e :: E, [], _, _ => by simp only [lows, highs, List.length_cons]; omega
  | e :: E, s :: S, hE, hN => by
    have ih := lh_bd E S (fun x hx => hE x (by simp [hx])) (fun x hx => hN x (by simp [hx]))
    have he := hE e (by simp)
    have hw := way4 (hN s (by simp)) he.1 he.2
    have h1 := mn_bd (A := 400000000) hw.1 hw.2 (by omega)
    have h2 := mx_bd (A := 400000000) hw.1 hw.2 (by omega)
    simp only [lows, highs, List.length_cons]
    have : ((E.length + 1 : Nat) : Int) = (E.length : Int) + 1 := rfl
    omega
/-- The least and the greatest place of a Ref that has some. -/
theorem places_ends {b : Int} {E S : List Int} (h : okR b E S) (h0 : pr E ≠ 0) : (∀ x ∈ placesR b E S, b + lows E S ≤ x ∧ x ≤ b + highs E S) ∧ b + lows E S ∈ placesR b E S ∧ b + highs E S ∈ placesR b E S := by
  have he := okX_pos h.1 h0
  rw [placesR_eq h]
  have hp := pr_nonneg fun e hx => (h.1.1.2 e hx).1
  refine ⟨fun x hx => ?_, ?_, ?_⟩
  · simp only [List.mem_map, List.mem_range] at hx
    obtain ⟨n, hn, rfl⟩ := hx
    have := dot_bd E S h.2.1 he h.2.2.2 n (by omega)
    omega
  · obtain ⟨n, h1, h2⟩ := dot_at true E S h.2.1 he
    simp only [if_true] at h2
    exact List.mem_map.2 ⟨n, List.mem_range.2 (by omega), by rw [h2]⟩
  · obtain ⟨n, h1, h2⟩ := dot_at false E S h.2.1 he
    simp only [Bool.false_eq_true, if_false] at h2
    exact List.mem_map.2 ⟨n, List.mem_range.2 (by omega), by rw [h2]⟩
theorem placesR_bd {b : Int} {E S : List Int} {x : Int} (h : x ∈ placesR b E S) : -2000000000 ≤ x ∧ x ≤ 2000000000 := by
  by_cases hr : okR b E S
  · by_cases h0 : pr E = 0
    · have := placesR_length hr
      rw [h0] at this
      have hz : placesR b E S = [] := List.length_eq_zero_iff.1 (by omega)
      rw [hz] at h; simp at h
    · have h1 := (places_ends hr h0).1 x h
      have h2 := lh_bd E S (fun e he => hr.1.1.2 e he) hr.2.2.2
      have h3 := hr.1.1.1.2
      have h4 := hr.2.2.1
      unfold near at h4
      omega
  · unfold placesR at h; rw [if_neg hr] at h; simp at h
theorem placesR_le (b : Int) (E S : List Int) : (placesR b E S).length ≤ 400 := by
  by_cases hr : okR b E S
  · have := placesR_length hr
    have := hr.1.2
    omega
  · unfold placesR; rw [if_neg hr]; simp
/-! The quick tests. -/
def gcdN : List Int → List Int → List Int → Nat → Nat
  | e :: E, s :: S, s' :: S', d => gcdN E S S' (if 1 < e then Nat.gcd (Nat.gcd d s.natAbs) s'.natAbs else d)
  | _, _, _, d => d
def gcdQ (a : Int) (E S : List Int) (b : Int) (S' : List Int) : Bool := decide (okR a E S ∧ okR b E S' ∧ pr E ≠ 0 ∧ ((gcdN E S S' 0 : Nat) : Int) ∣ a - b)
def rangeQ (a : Int) (E S : List Int) (b : Int) (S' : List Int) : Bool := decide ((okR a E S ∧ okR b E S' ∧ pr E ≠ 0) ∧ a + lows E S ≤ b + highs E S' ∧ b + lows E S' ≤ a + highs E S)
def insideQ (b : Int) (E S : List Int) (n : Int) : Bool := decide (okR b E S ∧ ∀ x ∈ placesR b E S, 0 ≤ x ∧ x < n)
theorem inside_iff {b : Int} {E S : List Int} {n : Int} (h : okR b E S) : insideQ b E S n = decide (pr E = 0 ∨ (0 ≤ b + lows E S ∧ b + highs E S < n)) := by
  unfold insideQ
  rw [decide_eq_decide]
  by_cases h0 : pr E = 0
  · have := placesR_length h
    have hz : placesR b E S = [] := List.length_eq_zero_iff.1 (by omega)
    simp [h, h0, hz]
  · obtain ⟨h1, h2, h3⟩ := places_ends h h0
    constructor
    · rintro ⟨_, h4⟩; exact .inr ⟨(h4 _ h2).1, (h4 _ h3).2⟩
    · rintro (h4 | h4)
      · exact absurd h4 h0
      · refine ⟨h, fun x hx => ?_⟩
        have := h1 x hx
        omega
end Go.Proofs.Ytnbijiopcgfmfaa.Q
