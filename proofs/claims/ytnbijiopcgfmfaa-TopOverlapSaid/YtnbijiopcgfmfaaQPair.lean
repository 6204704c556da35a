/- Which iterations of two lists of places meet, how far apart, on which way: plain. -/
import Derived.Test.YtnbijiopcgfmfaaQ17
import Derived.Test.YtnbijiopcgfmfaaQSort
set_option linter.unusedVariables false
set_option linter.unusedSimpArgs false
set_option linter.unusedSectionVars false
namespace Go.Proofs.Ytnbijiopcgfmfaa.Q
open Go
/-- Where x is in q, from k on. -/
def hits : List Int → Int → Nat → List Nat
  | [], _, _ => []
  | y :: q, x, k => if x = y then k :: hits q x (k + 1) else hits q x (k + 1)
def pairsF (q : List Int) : List Int → Nat → List (Nat × Nat)
  | [], _ => []
  | x :: p, i => (hits q x 0).map (fun k => (i, k)) ++ pairsF q p (i + 1)
def pairsQ (p q : List Int) : List (Nat × Nat) := pairsF q p 0
theorem hits_mem : ∀ (q : List Int) (x : Int) (k m : Nat), m ∈ hits q x k ↔ k ≤ m ∧ q[m - k]? = some x
  | [], x, k, m => by simp [hits]
  | y :: q, x, k, m => by
    have ih := hits_mem q x (k + 1) m
    have key : m ∈ hits q x (k + 1) ↔ k < m ∧ (y :: q)[m - k]? = some x := by
      rw [ih]
      constructor
      · rintro ⟨h1, h2⟩
        refine ⟨by omega, ?_⟩
        rw [show m - k = (m - (k + 1)) + 1 by omega]; simpa using h2
      · rintro ⟨h1, h2⟩
        refine ⟨by omega, ?_⟩
        rw [show m - k = (m - (k + 1)) + 1 by omega] at h2; simpa using h2
    rw [hits]
    split
    · rename_i e
      rw [List.mem_cons, key]
      constructor
      · rintro (rfl | h)
        · exact ⟨Nat.le_refl _, by simp [e]⟩
        · exact ⟨by omega, h.2⟩
      · rintro ⟨h1, h2⟩
        rcases Nat.lt_or_ge k m with h3 | h3
        · exact .inr ⟨h3, h2⟩
        · exact .inl (by omega)
    · rename_i e
      rw [key]
      constructor
      · rintro ⟨h1, h2⟩; exact ⟨by omega, h2⟩
      · rintro ⟨h1, h2⟩
        refine ⟨?_, h2⟩
        rcases Nat.lt_or_ge k m with h3 | h3
        · exact h3
        · obtain rfl : m = k := by omega
          simp at h2
          exact absurd h2.symm e
theorem pairsF_mem (q : List Int) : ∀ (p : List Int) (i : Nat) (z : Nat × Nat), z ∈ pairsF q p i ↔ i ≤ z.1 ∧ ∃ x, p[z.1 - i]? = some x ∧ q[z.2]? = some x
  | [], i, z => by simp [pairsF]
  | x :: p, i, z => by
    rw [pairsF, List.mem_append, pairsF_mem q p (i + 1) z, List.mem_map]
    constructor
    · rintro (⟨k, h1, rfl⟩ | ⟨h1, y, h2, h3⟩)
      · have h1 := (hits_mem q x 0 k).1 h1
        exact ⟨Nat.le_refl _, x, by simp, by simpa using h1.2⟩
      · refine ⟨by omega, y, ?_, h3⟩
        rw [show z.1 - i = (z.1 - (i + 1)) + 1 by omega]; simpa using h2
    · rintro ⟨h1, y, h2, h3⟩
      rcases Nat.lt_or_ge i z.1 with h4 | h4
      · refine .inr ⟨by omega, y, ?_, h3⟩
        rw [show z.1 - i = (z.1 - (i + 1)) + 1 by omega] at h2; simpa using h2
      · left
        have e : z.1 = i := by omega
        rw [e] at h2
        simp at h2
        subst h2
        exact ⟨z.2, (hits_mem q x 0 z.2).2 ⟨Nat.zero_le _, by simpa using h3⟩, by rw [← e]⟩
theorem pairs_mem (p q : List Int) (z : Nat × Nat) : z ∈ pairsQ p q ↔ ∃ x, p[z.1]? = some x ∧ q[z.2]? = some x := by
  unfold pairsQ
  rw [pairsF_mem]; simp
theorem hits_len : ∀ (q : List Int) (x : Int) (k : Nat), (hits q x k).length ≤ q.length
  | [], _, _ => Nat.le_refl _
  | y :: q, x, k => by
    have := hits_len q x (k + 1)
    rw [hits]
    split <;> simp only [List.length_cons] <;> omega
theorem pairsF_len (q : List Int) : ∀ (p : List Int) (i : Nat), (pairsF q p i).length ≤ p.length * q.length
  | [], i => by simp [pairsF]
  | x :: p, i => by
    have h1 := hits_len q x 0
    have h2 := pairsF_len q p (i + 1)
    rw [pairsF, List.length_append, List.length_map, List.length_cons, Nat.add_mul]
    omega
theorem pairs_len {p q : List Int} (hp : p.length ≤ 400) (hq : q.length ≤ 400) : (pairsQ p q).length ≤ 160000 := by
  have := pairsF_len q p 0
  have := Nat.mul_le_mul hp hq
  unfold pairsQ; omega
theorem pairs_bd {p q : List Int} (hp : p.length ≤ 400) (hq : q.length ≤ 400) {z : Nat × Nat} (h : z ∈ pairsQ p q) : z.1 < 400 ∧ z.2 < 400 := by
  obtain ⟨x, h1, h2⟩ := (pairs_mem p q z).1 h
  refine ⟨?_, ?_⟩
  · rcases Nat.lt_or_ge z.1 p.length with h' | h'
    · omega
    · simp [h'] at h1
  · rcases Nat.lt_or_ge z.2 q.length with h' | h'
    · omega
    · simp [h'] at h2
/-- How far apart. -/
def diffs (l : List (Nat × Nat)) : List Int := l.map fun z => (z.2 : Int) - z.1
def distQ (p q : List Int) : List Int := setQ (diffs (pairsQ p q))
theorem diffs_mem (p q : List Int) (d : Int) : d ∈ diffs (pairsQ p q) ↔ ∃ (i k : Nat) (x : Int), p[i]? = some x ∧ q[k]? = some x ∧ d = (k : Int) - i := by
  unfold diffs
  rw [List.mem_map]
  constructor
  · rintro ⟨z, h1, rfl⟩
    obtain ⟨x, h2, h3⟩ := (pairs_mem p q z).1 h1
    exact ⟨z.1, z.2, x, h2, h3, rfl⟩
  · rintro ⟨i, k, x, h2, h3, rfl⟩
    exact ⟨(i, k), (pairs_mem p q (i, k)).2 ⟨x, h2, h3⟩, rfl⟩
theorem diffs_turn (p q : List Int) (d : Int) : d ∈ diffs (pairsQ q p) ↔ -d ∈ diffs (pairsQ p q) := by
  rw [diffs_mem, diffs_mem]
  constructor
  · rintro ⟨i, k, x, h1, h2, rfl⟩; exact ⟨k, i, x, h2, h1, by omega⟩
  · rintro ⟨i, k, x, h1, h2, e⟩; exact ⟨k, i, x, h2, h1, by omega⟩
theorem diffs_bd {p q : List Int} (hp : p.length ≤ 400) (hq : q.length ≤ 400) {d : Int} (h : d ∈ diffs (pairsQ p q)) : -400 ≤ d ∧ d ≤ 400 := by
  unfold diffs at h
  obtain ⟨z, h1, rfl⟩ := List.mem_map.1 h
  have := pairs_bd hp hq h1
  omega
/-- The way: 0 none, 1 same, 2 on, 3 back, 4 both. -/
def wayC (ds : List Int) : Nat := if ds = [] then 0 else if (∃ d ∈ ds, 0 < d) ∧ (∃ d ∈ ds, d < 0) then 4 else if ∃ d ∈ ds, 0 < d then 2 else if ∃ d ∈ ds, d < 0 then 3 else 1
def turnC (c : Nat) : Nat := if c = 2 then 3 else if c = 3 then 2 else c
theorem nil_iff {ds es : List Int} (h : ∀ z, z ∈ ds ↔ z ∈ es) : ds = [] ↔ es = [] := by
  rw [List.eq_nil_iff_forall_not_mem, List.eq_nil_iff_forall_not_mem]
  exact ⟨fun q a ha => q a ((h a).2 ha), fun q a ha => q a ((h a).1 ha)⟩
theorem wayC_ext {ds es : List Int} (h : ∀ z, z ∈ ds ↔ z ∈ es) : wayC ds = wayC es := by
  have e1 : (∃ d ∈ ds, 0 < d) ↔ ∃ d ∈ es, 0 < d := ⟨fun ⟨d, a, b⟩ => ⟨d, (h d).1 a, b⟩, fun ⟨d, a, b⟩ => ⟨d, (h d).2 a, b⟩⟩
  have e2 : (∃ d ∈ ds, d < 0) ↔ ∃ d ∈ es, d < 0 := ⟨fun ⟨d, a, b⟩ => ⟨d, (h d).1 a, b⟩, fun ⟨d, a, b⟩ => ⟨d, (h d).2 a, b⟩⟩
  unfold wayC
  simp only [nil_iff h, e1, e2]
theorem wayC_turn (p q : List Int) : wayC (diffs (pairsQ q p)) = turnC (wayC (diffs (pairsQ p q))) := by
  have h := diffs_turn p q
  have e0 : diffs (pairsQ q p) = [] ↔ diffs (pairsQ p q) = [] := by
    rw [List.eq_nil_iff_forall_not_mem, List.eq_nil_iff_forall_not_mem]
    exact ⟨fun z a ha => z (-a) ((h (-a)).2 (by rw [Int.neg_neg]; exact ha)), fun z a ha => z (-a) ((h a).1 ha)⟩
  have e1 : (∃ d ∈ diffs (pairsQ q p), 0 < d) ↔ ∃ d ∈ diffs (pairsQ p q), d < 0 :=
    ⟨fun ⟨d, a, b⟩ => ⟨-d, (h d).1 a, by omega⟩, fun ⟨d, a, b⟩ => ⟨-d, (h (-d)).2 (by rw [Int.neg_neg]; exact a), by omega⟩⟩
  have e2 : (∃ d ∈ diffs (pairsQ q p), d < 0) ↔ ∃ d ∈ diffs (pairsQ p q), 0 < d :=
    ⟨fun ⟨d, a, b⟩ => ⟨-d, (h d).1 a, by omega⟩, fun ⟨d, a, b⟩ => ⟨-d, (h (-d)).2 (by rw [Int.neg_neg]; exact a), by omega⟩⟩
  unfold wayC turnC
  simp only [e0, e1, e2]
  by_cases h0 : diffs (pairsQ p q) = []
  · simp [h0]
  · by_cases h1 : ∃ d ∈ diffs (pairsQ p q), 0 < d
    · by_cases h2 : ∃ d ∈ diffs (pairsQ p q), d < 0
      · simp only [if_neg h0, if_pos h1, if_pos h2, if_pos (And.intro h1 h2), if_pos (And.intro h2 h1)]; rfl
      · simp only [if_neg h0, if_pos h1, if_neg h2, if_neg (fun q : _ ∧ _ => h2 q.2), if_neg (fun q : _ ∧ _ => h2 q.1)]; rfl
    · by_cases h2 : ∃ d ∈ diffs (pairsQ p q), d < 0
      · simp only [if_neg h0, if_neg h1, if_pos h2, if_neg (fun q : _ ∧ _ => h1 q.1), if_neg (fun q : _ ∧ _ => h1 q.2)]; rfl
      · simp only [if_neg h0, if_neg h1, if_neg h2, if_neg (fun q : _ ∧ _ => h1 q.1), if_neg (fun q : _ ∧ _ => h1 q.2)]; rfl
/-- The way read off the ends of a strictly rising list. -/
theorem wayC_ends {x : Int} {l : List Int} (h : (x :: l).Pairwise (· < ·)) {z : Int} (hz : (x :: l).getLast (by simp) = z) :
    wayC (x :: l) = if x = 0 ∧ z = 0 then 1 else if 0 ≤ x then 2 else if z ≤ 0 then 3 else 4 := by
  have hx : ∀ d ∈ x :: l, x ≤ d := fun d hd => by
    rcases List.mem_cons.1 hd with rfl | hd
    · omega
    · have := (List.pairwise_cons.1 h).1 d hd; omega
  have hl : ∀ (m : List Int) (hm : m ≠ []), m.Pairwise (· < ·) → ∀ d ∈ m, d ≤ m.getLast hm := by
    intro m
    induction m with
    | nil => intro hm; exact absurd rfl hm
    | cons y m ih =>
      intro hm hp d hd
      cases m with
      | nil => simp at hd; subst hd; exact Int.le_refl _
      | cons w m =>
        rw [List.getLast_cons (by simp)]
        rcases List.mem_cons.1 hd with rfl | hd
        · have := (List.pairwise_cons.1 hp).1 _ (List.getLast_mem (l := w :: m) (by simp)); omega
        · exact ih (by simp) (List.pairwise_cons.1 hp).2 d hd
  have hzz := hl (x :: l) (by simp) h
  rw [hz] at hzz
  have zm : z ∈ x :: l := by rw [← hz]; exact List.getLast_mem _
  have e1 : (∃ d ∈ x :: l, 0 < d) ↔ 0 < z := ⟨fun ⟨d, a, b⟩ => by have := hzz d a; omega, fun q => ⟨z, zm, q⟩⟩
  have e2 : (∃ d ∈ x :: l, d < 0) ↔ x < 0 := ⟨fun ⟨d, a, b⟩ => by have := hx d a; omega, fun q => ⟨x, by simp, q⟩⟩
  have hxz := hzz x (by simp)
  unfold wayC
  simp only [e1, e2, if_neg (show ¬ x :: l = [] by simp)]
  by_cases a1 : x < 0
  · by_cases a2 : 0 < z
    · rw [if_pos ⟨a2, a1⟩, if_neg (by omega), if_neg (by omega), if_neg (by omega)]
    · rw [if_neg (by omega), if_neg a2, if_pos a1, if_neg (by omega), if_neg (by omega), if_pos (by omega)]
  · by_cases a2 : 0 < z
    · rw [if_neg (by omega), if_pos a2, if_neg (by omega), if_pos (by omega)]
    · rw [if_neg (by omega), if_neg a2, if_neg a1, if_pos (by omega)]
/-- Both moved alike. -/
theorem pairsF_shift (s : Int) : ∀ (p q : List Int) (i : Nat), pairsF (q.map (· + s)) (p.map (· + s)) i = pairsF q p i := by
  have hh : ∀ (q : List Int) (x : Int) (k : Nat), hits (q.map (· + s)) (x + s) k = hits q x k := by
    intro q
    induction q with
    | nil => intro x k; rfl
    | cons y q ih =>
      intro x k
      simp only [List.map_cons, hits, ih]
      by_cases e : x = y
      · rw [if_pos e, if_pos (by omega)]
      · rw [if_neg e, if_neg (by omega)]
  intro p
  induction p with
  | nil => intro q i; rfl
  | cons x p ih => intro q i; simp only [List.map_cons, pairsF, hh, ih]
end Go.Proofs.Ytnbijiopcgfmfaa.Q
