/- SectionTurns in plain numbers: a transposed descriptor and one that runs backwards; twice they are what they were. -/
import Derived.Test.YticjlkommabcjaaSecPlc
import Derived.Test.YticjlkommabcjaaPSx8
import Derived.Test.YticjlkommabcjaaPSx16
import Derived.Test.YticjlkommabcjaaPSx30
import Derived.Test.YticjlkommabcjaaPSx31
import Derived.Test.YticjlkommabcjaaPSx32
import Derived.Test.YticjlkommabcjaaPSx33
import Derived.Test.YticjlkommabcjaaPSx34
import Derived.Test.YticjlkommabcjaaPSx35
import Derived.Test.YticjlkommabcjaaPSx36
set_option linter.unusedVariables false
namespace Go.Proofs.Yticjlkommabcjaa.Pure
open Go.RowKit Go.Proofs.YticjlkommabcjaaW.PrintWords Go.Proofs.YticjlkommabcjaaW.PrintMore Go.Proofs.Yticjlkommabcjaa.PS Go.Proofs.Yticjlkommabcjaa.Ar

theorem same_desc' (b : Int) (E S : List Int) (hE : E.length ≤ 3) (hS : S.length ≤ 3) (k : Nat) (hk : 10 ≤ k) : quadratref06_Same.f k b E S b E S = some true := by
  unfold quadratref06_Same.f
  rw [if_pos rfl, same_refl E (by omega) _ (by omega), same_refl S (by omega) _ (by omega)]
  rfl

theorem lows_le : ∀ (E S : List Int), lows E S ≤ 0
  | n :: E, s :: S => by
    have := lows_le E S
    rw [lows]
    unfold mn
    split <;> omega
  | [], _ => by simp [lows]
  | _ :: _, [] => by simp [lows]
theorem highs_ge : ∀ (E S : List Int), 0 ≤ highs E S
  | n :: E, s :: S => by
    have := highs_ge E S
    rw [highs]
    unfold mx
    split <;> omega
  | [], _ => by simp [highs]
  | _ :: _, [] => by simp [highs]
theorem lows_neg : ∀ (E S : List Int) (k : Nat) (n s : Int), E[k]? = some n → S[k]? = some s → lows E (S.set k (-s)) = lows E S - s * (n - 1) ∧ highs E (S.set k (-s)) = highs E S - s * (n - 1)
  | n' :: E, s' :: S, 0, n, s, hn, hs => by
    simp only [List.getElem?_cons_zero, Option.some.injEq] at hn hs
    subst hn hs
    rw [List.set_cons_zero, lows, lows, highs, highs, Int.neg_mul]
    generalize s' * (n' - 1) = p
    unfold mn mx
    constructor <;> split <;> split <;> omega
  | n' :: E, s' :: S, k + 1, n, s, hn, hs => by
    simp only [List.getElem?_cons_succ] at hn hs
    have ih := lows_neg E S k n s hn hs
    rw [List.set_cons_succ, lows, lows, highs, highs]
    omega
  | [], _, _, _, _, hn, _ => by simp at hn
  | _ :: _, [], _, _, _, _, hs => by simp at hs

def revB (b : Int) (E S : List Int) (d : Int) : Int := if prod E > 0 then b + (rd E d - 1) * rd S d else b
def revS (S : List Int) (d : Int) : List Int := S.set d.toNat (-(rd S d))
theorem rd_get {l : List Int} {i : Int} (h0 : 0 ≤ i) (h1 : i < l.length) : l[i.toNat]? = some (rd l i) := by
  have h2 : i.toNat < l.length := by omega
  simp [rd, List.getD_eq_getElem?_getD, h2]
theorem prod_nonneg {E : List Int} (h : exts E) : 0 ≤ prod E := by
  rw [prod_pr]
  have : ∀ F : List Int, (∀ e ∈ F, 0 ≤ e) → 0 ≤ pr F := by
    intro F
    induction F with
    | nil => intro _; simp [pr]
    | cons e F ih => intro hF; rw [pr]; exact Int.mul_nonneg (hF e (by simp)) (ih fun x hx => hF x (by simp [hx]))
  exact this E fun e he => (h.2 e he).1
theorem rev_facts {b : Int} {E S : List Int} {d : Int} (h : okD b E S) (h0 : 0 ≤ d) (h1 : d < E.length) :
    (-9000000000000 ≤ (rd E d - 1) * rd S d ∧ (rd E d - 1) * rd S d ≤ 9000000000000) ∧ nearS (rd S d) ∧ (prod E > 0 → b ≤ 2147483648) := by
  obtain ⟨hE, hp, hS, hb, hN, hz⟩ := h
  obtain ⟨e0, e1⟩ := hE.2 _ (rd_mem h0 h1)
  have hn := hN _ (rd_mem (l := S) h0 (by omega))
  have := way_bd hn e0 e1
  rw [Int.mul_comm] at this
  refine ⟨this, hn, fun hq => ?_⟩
  rcases hz with hz | hz
  · omega
  · exact hz.1
theorem rev_ok {b : Int} {E S : List Int} {d : Int} (h : okD b E S) (h0 : 0 ≤ d) (h1 : d < E.length) : okD (revB b E S d) E (revS S d) := by
  have hf := rev_facts h h0 h1
  obtain ⟨hE, hp, hS, hb, hN, hz⟩ := h
  have hl := lows_neg E S d.toNat (rd E d) (rd S d) (rd_get h0 h1) (rd_get (l := S) h0 (by omega))
  have a1 := lows_le E (revS S d)
  have a2 := highs_ge E (revS S d)
  have hpn := prod_nonneg hE
  have hnn := hf.2.1
  unfold nearS at hnn
  refine ⟨hE, hp, by unfold revS; simpa using hS, ?_, ?_, ?_⟩
  · unfold revB
    split
    · rcases hz with hz | hz
      · omega
      · unfold revS at a1
        rw [Int.mul_comm] at hl
        omega
    · exact hb
  · intro s hs
    unfold revS at hs
    rcases List.mem_or_eq_of_mem_set hs with hs | rfl
    · exact hN s hs
    · unfold nearS
      omega
  · rcases hz with hz | hz
    · exact .inl hz
    · by_cases hq : prod E = 0
      · exact .inl hq
      · right
        unfold revB
        unfold revS at a1 a2 ⊢
        rw [if_pos (by omega)]
        rw [Int.mul_comm] at hl
        omega
theorem rev_back {b : Int} {E S : List Int} {d : Int} (hS : S.length = E.length) (h0 : 0 ≤ d) (h1 : d < E.length) : revB (revB b E S d) E (revS S d) d = b ∧ revS (revS S d) d = S := by
  have hr : rd (revS S d) d = -(rd S d) := by
    have h2 : d.toNat < S.length := by omega
    unfold revS
    simp [rd, List.getD_eq_getElem?_getD, h2]
  constructor
  · unfold revB
    rw [hr, Int.mul_neg]
    split <;> omega
  · show (revS S d).set d.toNat (-(rd (revS S d) d)) = S
    rw [hr, Int.neg_neg]
    unfold revS
    rw [List.set_set]
    refine List.ext_getElem? fun i => ?_
    rw [List.getElem?_set]
    split
    · next e =>
      subst e
      rw [if_pos (by omega), rd_get h0 (by omega)]
    · rfl

def revR (b : Int) (E S : List Int) (d : Int) : Int × List Int × List Int × Int := if okD b E S ∧ 0 ≤ d ∧ d < E.length then (revB b E S d, E, revS S d, 0) else (0, [], [], 2)
theorem rev_f (b : Int) (E S : List Int) (d : Int) (hb : b ≤ 9223372036854775807) (hSl : (S.length : Int) ≤ 9223372036854775806) (k : Nat) (hk : 60 ≤ k) : section_Reverse.f k b E S d = some (revR b E S d) := by
  unfold section_Reverse.f revR
  rw [valid_f b E S hb hSl _ (by omega)]
  simp only [Option.bind_some]
  obtain ⟨k, rfl⟩ : ∃ m, k = m + 1 := ⟨k - 1, by omega⟩
  have hj : section_Reverse.j0 (k + 1) d true b E S = some (0, [], [], 2) := by rw [section_Reverse.j0, if_pos rfl]
  by_cases h : okD b E S
  · rw [decide_eq_true h, if_pos rfl]
    by_cases h0 : d < 0
    · rw [if_pos h0, hj, if_neg (fun hc => by omega)]
    · rw [if_neg h0]
      by_cases h1 : d ≥ (E.length : Int)
      · rw [decide_eq_true h1, hj, if_neg (fun hc => by omega)]
      · have hd0 : 0 ≤ d := by omega
        have hd1 : d < (E.length : Int) := by omega
        have hf := rev_facts h hd0 hd1
        have hl := h.1.1
        have hS := h.2.2.1
        have hb0 := h.2.2.2.1
        have hn := hf.2.1
        unfold nearS at hn
        have hs : sizeOf' E = prod E := by unfold sizeOf'; rw [if_pos ⟨h.1, h.2.1⟩]
        rw [decide_eq_false h1, section_Reverse.j0, if_neg (by decide), if_pos ⟨h, hd0, hd1⟩]
        unfold slices_Clone.f
        simp only [Option.bind_some, List.nil_append]
        rw [if_pos (by simp only [List.length_nil]; omega), if_pos (by simp only [List.length_nil]; omega), size_f E _ (by omega), hs]
        simp only [Option.bind_some, if_pos hd0, if_pos hd1, if_pos (show d < (S.length : Int) by omega)]
        unfold revB revS
        rw [w64 (x := -(rd S d)) (by omega) (by omega)]
        by_cases hp : prod E > 0
        · have := hf.2.2 hp
          obtain ⟨e0, e1⟩ := h.1.2 _ (rd_mem hd0 hd1)
          rw [if_pos hp, if_pos hp, w64 (x := rd E d - 1) (by omega) (by omega), w64 (x := (rd E d - 1) * rd S d) (by omega) (by omega), w64 (by omega) (by omega)]
        · rw [if_neg hp, if_neg hp]
  · rw [decide_eq_false h, if_neg (by decide), hj, if_neg (fun hc => h hc.1)]
theorem rev_r (b : Int) (E S : List Int) (d : Int) (hb : b ≤ 9223372036854775807) (hSl : (S.length : Int) ≤ 9223372036854775806) (k : Nat) (hk : 60000 ≤ k) : quadratref06_Reverse.f k b E S d = some (revR b E S d) := by
  unfold quadratref06_Reverse.f revR
  rw [valid_r b E S hb _ (by omega)]
  simp only [Option.bind_some]
  obtain ⟨k, rfl⟩ : ∃ m, k = m + 1 := ⟨k - 1, by omega⟩
  have hj : quadratref06_Reverse.j0 (k + 1) d true b E S = some (0, [], [], 2) := by rw [quadratref06_Reverse.j0, if_pos rfl]
  by_cases h : okD b E S
  · rw [decide_eq_true h, if_pos rfl]
    by_cases h0 : d < 0
    · rw [if_pos h0, hj, if_neg (fun hc => by omega)]
    · rw [if_neg h0]
      by_cases h1 : d ≥ (E.length : Int)
      · rw [decide_eq_true h1, hj, if_neg (fun hc => by omega)]
      · have hd0 : 0 ≤ d := by omega
        have hd1 : d < (E.length : Int) := by omega
        have hf := rev_facts h hd0 hd1
        have hl := h.1.1
        have hS := h.2.2.1
        have hb0 := h.2.2.2.1
        have hn := hf.2.1
        unfold nearS at hn
        have hs : sizeOf' E = prod E := by unfold sizeOf'; rw [if_pos ⟨h.1, h.2.1⟩]
        rw [decide_eq_false h1, quadratref06_Reverse.j0, if_neg (by decide), if_pos ⟨h, hd0, hd1⟩]
        unfold quadratref06_Copy.f
        simp only [Option.bind_some, List.nil_append]
        rw [if_pos (by simp only [List.length_nil]; omega), if_pos (by simp only [List.length_nil]; omega), size_r E _ (by omega), hs]
        simp only [Option.bind_some, if_pos hd0, if_pos hd1, if_pos (show d < (S.length : Int) by omega)]
        unfold revB revS
        rw [w64 (x := -(rd S d)) (by omega) (by omega)]
        by_cases hp : prod E > 0
        · have := hf.2.2 hp
          obtain ⟨e0, e1⟩ := h.1.2 _ (rd_mem hd0 hd1)
          rw [if_pos hp, if_pos hp, w64 (x := rd E d - 1) (by omega) (by omega), w64 (x := (rd E d - 1) * rd S d) (by omega) (by omega), w64 (by omega) (by omega)]
        · rw [if_neg hp, if_neg hp]
  · rw [decide_eq_false h, if_neg (by decide), hj, if_neg (fun hc => h hc.1)]

def trR (b : Int) (E S : List Int) : Int × List Int × List Int × Int := if okD b E S then (if E.length = 2 then (b, [rd E 1, rd E 0], [rd S 1, rd S 0], 0) else (0, [], [], 30)) else (0, [], [], 2)
theorem tr_f (b : Int) (E S : List Int) (hb : b ≤ 9223372036854775807) (hSl : (S.length : Int) ≤ 9223372036854775806) (k : Nat) (hk : 60 ≤ k) : section_Transpose.f k b E S = some (trR b E S) := by
  unfold section_Transpose.f trR
  rw [valid_f b E S hb hSl _ (by omega)]
  simp only [Option.bind_some]
  by_cases h : okD b E S
  · have hS := h.2.2.1
    rw [decide_eq_true h, if_pos rfl, if_pos h]
    by_cases h2 : E.length = 2
    · rw [if_pos h2, if_pos (by omega), if_pos (by omega), if_pos (by omega), if_pos (by omega), if_pos (by omega)]
    · rw [if_neg h2, if_neg (by omega)]
  · rw [decide_eq_false h, if_neg (by decide), if_neg h]
theorem tr_r (b : Int) (E S : List Int) (hb : b ≤ 9223372036854775807) (k : Nat) (hk : 60000 ≤ k) : quadratref06_Transpose.f k b E S = some (trR b E S) := by
  unfold quadratref06_Transpose.f trR
  rw [valid_r b E S hb _ (by omega)]
  simp only [Option.bind_some]
  by_cases h : okD b E S
  · have hS := h.2.2.1
    rw [decide_eq_true h, if_pos rfl, if_pos h]
    by_cases h2 : E.length = 2
    · rw [if_pos h2, if_pos (by omega), if_pos (by omega), if_pos (by omega), if_pos (by omega), if_pos (by omega)]
    · rw [if_neg h2, if_neg (by omega)]
  · rw [decide_eq_false h, if_neg (by decide), if_neg h]
theorem two (l : List Int) (h : l.length = 2) : l = [rd l 0, rd l 1] := by
  match l, h with
  | [a, b], _ => rfl
theorem tr_ok {b : Int} {E S : List Int} (h : okD b E S) (h2 : E.length = 2) : okD b [rd E 1, rd E 0] [rd S 1, rd S 0] := by
  obtain ⟨hE, hp, hS, hb, hN, hz⟩ := h
  have e := two E h2
  have s := two S (by omega)
  generalize rd E 0 = e0 at e ⊢
  generalize rd E 1 = e1 at e ⊢
  generalize rd S 0 = s0 at s ⊢
  generalize rd S 1 = s1 at s ⊢
  subst e s
  have pe : prod [e1, e0] = prod [e0, e1] := by
    rw [prod_pr, prod_pr]
    simp only [pr, Int.mul_one]
    exact Int.mul_comm _ _
  refine ⟨⟨by simp, fun e he => hE.2 e (by simp at he ⊢; omega)⟩, by rw [pe]; exact hp, by simp, hb, fun s hs => hN s (by simp at hs ⊢; omega), ?_⟩
  rw [pe]
  simp only [lows, highs] at hz ⊢
  rcases hz with hz | hz
  · exact .inl hz
  · right
    omega

theorem revR_len (b : Int) (E S : List Int) (d : Int) : (revR b E S d).2.1.length ≤ 3 ∧ (revR b E S d).2.2.1.length ≤ 3 := by
  unfold revR
  split
  · next h =>
    have := h.1.1.1
    have := h.1.2.2.1
    unfold revS
    simp only [List.length_set]
    omega
  · simp
theorem trR_len (b : Int) (E S : List Int) : (trR b E S).2.1.length ≤ 3 ∧ (trR b E S).2.2.1.length ≤ 3 := by
  unfold trR
  split
  · split <;> simp
  · simp

theorem SectionTurns : ∀ (x0 : S31) (x1 : Int), (((Lit.int .i64 x0.f0).wf = true) ∧ (x0.f1.length * 8 ≤ 140737488351232 ∧ ∀ e0_ ∈ x0.f1, (Lit.int .i64 e0_).wf = true) ∧ (x0.f2.length * 8 ≤ 140737488351232 ∧ ∀ e0_ ∈ x0.f2, (Lit.int .i64 e0_).wf = true)) → ((Lit.int .i64 x1).wf = true) → ∃ k, quadratlaw06_SectionTurns.f k (x0.f0) (x0.f1) (x0.f2) x1 = some true := by
  intro x0 d h0 hd
  obtain ⟨b, E, S⟩ := x0
  have hb := (i64_wf b).1 h0.1
  have hS := h0.2.2.1
  dsimp only at hS
  refine ⟨100000, ?_⟩
  show quadratlaw06_SectionTurns.f 100000 b E S d = some true
  have a1 := trR_len b E S
  have a2 := revR_len b E S d
  have J1 : quadratlaw06_SectionTurns.j1 (99998 + 1) d (revR b E S d).2.2.2 b E S (revR b E S d).1 (revR b E S d).2.1 (revR b E S d).2.2.1 = some true := by
    rw [quadratlaw06_SectionTurns.j1]
    unfold revR
    by_cases h : okD b E S ∧ 0 ≤ d ∧ d < E.length
    · have hl := h.1.1.1
      have hSl := h.1.2.2.1
      have hk := rev_ok h.1 h.2.1 h.2.2
      have hbk := rev_back (b := b) h.1.2.2.1 h.2.1 h.2.2
      have hpl := plcR_length (b := b) (S := S) hSl h.1.1
      have hp := h.1.2.1
      have hB : revB b E S d ≤ 9223372036854775807 := by
        have hf := rev_facts h.1 h.2.1 h.2.2
        unfold revB
        split
        · have := hf.2.2 (by assumption)
          omega
        · exact hb.2
      rw [if_pos h]
      dsimp only
      rw [if_pos rfl, rev_f _ E _ d hB (by unfold revS; simp only [List.length_set]; omega) _ (by omega)]
      unfold revR
      rw [if_pos ⟨hk, h.2⟩, hbk.1, hbk.2, places_f b E S (by omega) (by omega) _ (by omega), if_pos h.1]
      simp only [Option.bind_some, if_true]
      rw [places_f b E S (by omega) (by omega) _ (by omega), if_pos h.1, same_desc' b E S hl (by omega) _ (by omega)]
      simp only [Option.bind_some, if_true]
      rw [same_refl _ (by omega) _ (by omega), awk_snd _ (by omega)]
      rfl
    · rw [if_neg h]
      dsimp only
      rw [if_neg (by decide), awk_snd _ (by omega)]
  have J0 : quadratlaw06_SectionTurns.j0 (99999 + 1) d (trR b E S).2.2.2 (revR b E S d).2.2.2 false b E S (trR b E S).1 (trR b E S).2.1 (trR b E S).2.2.1 (revR b E S d).1 (revR b E S d).2.1 (revR b E S d).2.2.1 = some true := by
    rw [quadratlaw06_SectionTurns.j0, if_neg (by decide), show (99999 : Nat) = 99998 + 1 from rfl, J1]
    unfold trR
    by_cases h : okD b E S
    · by_cases h2 : E.length = 2
      · have hSl := h.2.2.1
        have ht := tr_ok h h2
        rw [if_pos h, if_pos h2]
        dsimp only
        rw [if_pos rfl, tr_f b _ _ (by omega) (by simp) _ (by omega)]
        unfold trR
        rw [if_pos ht, if_pos (by simp)]
        have e := two E h2
        have s := two S (by omega)
        have e' : ([rd [rd E 1, rd E 0] 1, rd [rd E 1, rd E 0] 0] : List Int) = E := by
          conv => rhs; rw [e]
          rfl
        have s' : ([rd [rd S 1, rd S 0] 1, rd [rd S 1, rd S 0] 0] : List Int) = S := by
          conv => rhs; rw [s]
          rfl
        rw [e', s']
        simp only [Option.bind_some, if_true]
        rw [same_desc' b E S (by omega) (by omega) _ (by omega)]
        simp only [Option.bind_some, if_true]
      · rw [if_pos h, if_neg h2]
        dsimp only
        rw [if_neg (by decide)]
    · rw [if_neg h]
      dsimp only
      rw [if_neg (by decide)]
  unfold quadratlaw06_SectionTurns.f
  rw [tr_f b E S (by omega) (by omega) _ (by omega), tr_r b E S (by omega) _ (by omega), rev_f b E S d (by omega) (by omega) _ (by omega), rev_r b E S d (by omega) (by omega) _ (by omega)]
  simp only [Option.bind_some]
  rw [same_desc' _ _ _ a1.1 a1.2 _ (by omega), same_desc' _ _ _ a2.1 a2.2 _ (by omega), bne_self_eq_false]
  simp only [Option.bind_some, if_true]
  exact J0
end Go.Proofs.Yticjlkommabcjaa.Pure
