/- A whole array lies in one piece: plain lists. -/
import Derived.Test.YtochkebkfoophaaC24d
namespace Go.Proofs.Ytochkebkfoophaa.Tev
open Go Go.RowKit Go.Proofs Go.Proofs.Ytochkebkfoophaa.Q
set_option linter.unusedSectionVars false
set_option linter.unusedSimpArgs false
set_option linter.unusedVariables false
/-- n numbers from b on. -/
def run (b : Int) (n : Nat) : List Int := (List.range n).map fun t : Nat => b + t
theorem run_len (b : Int) (n : Nat) : (run b n).length = n := by simp [run]
theorem run_get {b : Int} {n k : Nat} (h : k < n) : (run b n)[k]? = some (b + k) := by simp [run, h]
theorem run_app (b : Int) (n k : Nat) : run b n ++ run (b + n) k = run b (n + k) := by
  unfold run
  rw [List.range_add, List.map_append, List.map_map]
  congr 1
  apply List.map_congr_left
  intro t _
  simp only [Function.comp]
  push_cast
  omega
theorem run_one (b : Int) : run b 1 = [b] := by simp [run]
theorem row_run (b : Int) (n : Nat) (j : Nat) (hb : 0 ≤ b) (hb2 : b ≤ 1000000) (hn : n ≤ 100000) (hj : j * n ≤ 100000) : rowW (run b n) n j = run (b + (j * n : Nat)) n := by
  unfold rowW run
  rw [List.map_map]
  apply List.map_congr_left
  intro t ht
  have ht := List.mem_range.1 ht
  simp only [Function.comp]
  have hj' : (j : Int) * n ≤ 100000 := by
    have := Int.ofNat_le.2 hj
    rw [Int.natCast_mul] at this
    exact this
  have hj2 : 0 ≤ (j : Int) * n := Int.mul_nonneg (by omega) (by omega)
  rw [w64 (x := (j : Int) * n) (by omega) (by omega), w64 (by omega) (by omega)]
  push_cast
  omega
theorem dim_run (b : Int) (n : Nat) (hb : 0 ≤ b) (hb2 : b ≤ 1000000) (hn : n ≤ 100000) : ∀ (d j : Nat), (j + d) * n ≤ 100000 → dimW (run b n) n d j = run (b + (j * n : Nat)) (n * d)
  | 0, j, _ => by rw [dimW_zero, Nat.mul_zero]; rfl
  | d + 1, j, h => by
    have h1 : j * n ≤ 100000 := Nat.le_trans (Nat.mul_le_mul_right n (by omega)) h
    rw [dimW_succ, row_run b n j hb hb2 hn h1]
    have ih := dim_run b n hb hb2 hn d (j + 1) (by rw [show j + 1 + d = j + (d + 1) by omega]; exact h)
    rw [show ((j : Int) + 1) = ((j + 1 : Nat) : Int) from rfl, ih]
    have e : b + (((j + 1) * n : Nat) : Int) = b + ((j * n : Nat) : Int) + (n : Nat) := by rw [Nat.succ_mul]; push_cast; omega
    rw [e, run_app]
    congr 1
    rw [Nat.mul_succ]; omega
theorem plc_run (b : Int) (hb : 0 ≤ b) (hb2 : b ≤ 1000000) : ∀ (E : List Int) (n : Nat), (∀ e ∈ E, 1 ≤ e) → (n : Int) * pr E ≤ 100000 → plcW E (wholeS n E) (run b n) = run b (n * (pr E).toNat)
  | [], n, _, _ => by
    show run b n = run b (n * (1 : Int).toNat)
    rw [show (1 : Int).toNat = 1 from rfl, Nat.mul_one]
  | e :: E, n, hE, h => by
    have he := hE e (by simp)
    have hp : 1 ≤ pr E := pr_pos fun x hx => hE x (by simp [hx])
    rw [pr, ← Int.mul_assoc] at h
    have h2 : (n : Int) * e ≤ 100000 := mul_one_le (Int.mul_nonneg (by omega) (by omega)) hp h
    have h3 : (n : Int) ≤ 100000 := mul_one_le (by omega) he h2
    obtain ⟨k, rfl⟩ : ∃ k : Nat, e = k := ⟨e.toNat, by omega⟩
    have h4 : (0 + k) * n ≤ 100000 := by
      rw [Nat.zero_add, Nat.mul_comm]
      exact Int.ofNat_le.1 (show ((n * k : Nat) : Int) ≤ ((100000 : Nat) : Int) from by rw [Int.natCast_mul]; exact h2)
    have hd := dim_run b n hb hb2 (by omega) k 0 h4
    simp only [Nat.zero_mul, Int.natCast_zero, Int.add_zero] at hd
    show plcW E (wholeS ((n : Int) * k) E) (dimW (run b n) n ((k : Int).toNat) 0) = _
    rw [Int.toNat_natCast, hd]
    have ih := plc_run b hb hb2 E (n * k) (fun x hx => hE x (by simp [hx])) (by push_cast; exact h)
    push_cast at ih
    rw [ih, pr]
    congr 1
    rw [Int.toNat_mul (by omega) (by omega), Int.toNat_natCast, Nat.mul_assoc]
theorem wholeS_bd : ∀ (E : List Int) (a A : Int), 0 ≤ a → a ≤ A → (∀ e ∈ E, 1 ≤ e) → a * pr E ≤ A → ∀ s ∈ wholeS a E, 0 ≤ s ∧ s ≤ A
  | [], a, A, _, _, _, _, s, h => by simp [wholeS] at h
  | e :: E, a, A, h0, h1, hE, h2, s, h => by
    have he := hE e (by simp)
    have hp : 1 ≤ pr E := pr_pos fun x hx => hE x (by simp [hx])
    rw [pr, ← Int.mul_assoc] at h2
    have h3 : 0 ≤ a * e := Int.mul_nonneg h0 (by omega)
    have h4 : a * e ≤ A := mul_one_le h3 hp h2
    rcases List.mem_cons.1 h with rfl | h
    · exact ⟨h0, h1⟩
    · exact wholeS_bd E (a * e) A h3 h4 (fun x hx => hE x (by simp [hx])) h2 s h
/-- A piece that is packed is a valid array, and its places run on. -/
theorem whole_ok {E : List Int} {B : Nat} (hE : okE E) (h0 : pr E ≠ 0) (hB : B ≤ 100000) : okD B (wholeE E) (wholeT E) ∧ placesQ B (wholeE E) (wholeT E) = run B (pr E).toNat := by
  have hp := exts_pos hE.1 h0
  have hpl : plcR B E (wholeS 1 E) = run B (pr E).toNat := by
    unfold plcR
    rw [if_neg h0]
    have h4 := hE.2
    have := plc_run B (by omega) (by omega) E 1 hp (by push_cast; omega)
    rw [run_one, Nat.one_mul] at this
    exact this
  have hN : ∀ s ∈ wholeS 1 E, nearS s := by
    intro s hs
    have h4 := hE.2
    have h5 := pr_pos hp
    have := wholeS_bd E 1 (pr E) (by omega) h5 hp (by omega) s hs
    unfold nearS
    omega
  have hl : (wholeS 1 E).length = E.length := wholeS_len 1 E
  have hd : okD B E (wholeS 1 E) := by
    refine ⟨hE.1, hE.2, hl, by omega, hN, (all_plcR hE.1 hl hN (by omega) (by omega)).1 ?_⟩
    rw [hpl]
    intro x hx
    unfold run at hx
    obtain ⟨t, ht, rfl⟩ := List.mem_map.1 hx
    have ht := List.mem_range.1 ht
    have h4 := hE.2
    omega
  unfold wholeE wholeT
  rw [if_pos hE, if_pos hE]
  exact ⟨hd, by unfold placesQ; rw [if_pos hd, hpl]⟩
theorem wholeS_z : ∀ (E : List Int) (a : Int) (k : Nat), E.length + k ≤ 3 → 0 ≤ a → a ≤ B4 k → (∀ e ∈ E, 0 ≤ e ∧ e ≤ 4000) → ∀ s ∈ wholeS a E, 0 ≤ s ∧ s ≤ B4 2
  | [], a, k, _, _, _, _, s, h => by simp [wholeS] at h
  | e :: E, a, k, hk, h0, h1, hE, s, h => by
    have he := hE e (by simp)
    simp only [List.length_cons] at hk
    have h3 := B4_step (n := k) (by omega) h0 h1 he.1 he.2
    rcases List.mem_cons.1 h with rfl | h
    · have : B4 k ≤ B4 2 := by
        have : k = 0 ∨ k = 1 ∨ k = 2 := by omega
        rcases this with rfl | rfl | rfl <;> simp [B4]
      omega
    · exact wholeS_z E (a * e) (k + 1) (by omega) h3.1 h3.2 (fun x hx => hE x (by simp [hx])) s h
theorem whole_ok0 {E : List Int} {B : Nat} (hE : okE E) (h0 : pr E = 0) : okD B (wholeE E) (wholeT E) ∧ placesQ B (wholeE E) (wholeT E) = [] := by
  have hN : ∀ s ∈ wholeS 1 E, nearS s := by
    intro s hs
    have := wholeS_z E 1 0 (by have := hE.1.1; omega) (by omega) (by simp [B4]) hE.1.2 s hs
    simp only [B4] at this
    unfold nearS
    omega
  have hl : (wholeS 1 E).length = E.length := wholeS_len 1 E
  have hd : okD B E (wholeS 1 E) := ⟨hE.1, hE.2, hl, by omega, hN, .inl h0⟩
  unfold wholeE wholeT
  rw [if_pos hE, if_pos hE]
  exact ⟨hd, by unfold placesQ plcR; rw [if_pos hd, if_pos h0]⟩
theorem whole_run {E : List Int} {B : Nat} (hE : okE E) (hB : B ≤ 100000) : okD B (wholeE E) (wholeT E) ∧ placesQ B (wholeE E) (wholeT E) = run B (pr E).toNat := by
  by_cases h0 : pr E = 0
  · have := whole_ok0 (B := B) hE h0
    rw [h0]
    exact this
  · exact whole_ok hE h0 hB
/-- What Enter makes, pass by pass. -/
theorem ent_spec (m : List Int) : ∀ (r : List PassQ) (out : List Int) (av : List DscQ),
    (∃ t, (entQ m r (out, av)).1 = out ++ t) ∧ ∃ u, (entQ m r (out, av)).2 = av ++ u ∧ u.length = r.length ∧
      ∀ (j : Nat) (p : PassQ), r[j]? = some p → ∃ d, u[j]? = some d ∧ ((packedQ p = true ∧ ∃ (B : Nat) (t1 t2 : List Int), d = ((B : Int), wholeE p.1.2.1, wholeT p.1.2.1) ∧ out.length ≤ B ∧ (entQ m r (out, av)).1 = t1 ++ (packP m p ++ t2) ∧ t1.length = B) ∨ (¬ packedQ p = true ∧ d = p.1))
  | [], out, av => ⟨⟨[], by simp [entQ]⟩, [], by simp [entQ], rfl, fun j p h => by simp at h⟩
  | p :: r, out, av => by
    by_cases hx : packedQ p = true
    · have hc : entQ m (p :: r) (out, av) = entQ m r (out ++ packP m p, av ++ [((out.length : Int), wholeE p.1.2.1, wholeT p.1.2.1)]) := by rw [entQ, if_pos hx]
      obtain ⟨⟨t, h1⟩, u, h2, h3, h4⟩ := ent_spec m r (out ++ packP m p) (av ++ [((out.length : Int), wholeE p.1.2.1, wholeT p.1.2.1)])
      rw [hc]
      refine ⟨⟨packP m p ++ t, by rw [h1, List.append_assoc]⟩, ((out.length : Int), wholeE p.1.2.1, wholeT p.1.2.1) :: u, by rw [h2]; simp, by simp [h3], fun j q hj => ?_⟩
      cases j with
      | zero =>
        simp only [List.getElem?_cons_zero, Option.some.injEq] at hj
        subst hj
        exact ⟨_, rfl, .inl ⟨hx, out.length, out, t, rfl, Nat.le_refl _, by rw [h1, List.append_assoc], rfl⟩⟩
      | succ j =>
        obtain ⟨d, h5, h6⟩ := h4 j q (by simpa using hj)
        refine ⟨d, by simpa using h5, ?_⟩
        rcases h6 with ⟨a1, B, t1, t2, a2, a3, a4, a5⟩ | h6
        · exact .inl ⟨a1, B, t1, t2, a2, by rw [List.length_append] at a3; omega, a4, a5⟩
        · exact .inr h6
    · have hc : entQ m (p :: r) (out, av) = entQ m r (out, av ++ [p.1]) := by rw [entQ, if_neg hx]
      obtain ⟨⟨t, h1⟩, u, h2, h3, h4⟩ := ent_spec m r out (av ++ [p.1])
      rw [hc]
      refine ⟨⟨t, h1⟩, p.1 :: u, by rw [h2]; simp, by simp [h3], fun j q hj => ?_⟩
      cases j with
      | zero =>
        simp only [List.getElem?_cons_zero, Option.some.injEq] at hj
        subst hj
        exact ⟨_, rfl, .inr ⟨hx, rfl⟩⟩
      | succ j =>
        obtain ⟨d, h5, h6⟩ := h4 j q (by simpa using hj)
        exact ⟨d, by simpa using h5, h6⟩
theorem ent_len (m : List Int) : ∀ (r : List PassQ) (out : List Int) (av : List DscQ), (entQ m r (out, av)).1.length ≤ out.length + 4000 * r.length
  | [], out, av => by simp [entQ]
  | p :: r, out, av => by
    rw [entQ]
    have hn := packQ_len m p.1.1 p.1.2.1 p.1.2.2
    split
    · have := ent_len m r (out ++ packP m p) (av ++ [((out.length : Int), wholeE p.1.2.1, wholeT p.1.2.1)])
      unfold packP at this ⊢
      simp only [List.length_append, List.length_cons] at this ⊢
      omega
    · have := ent_len m r out (av ++ [p.1])
      simp only [List.length_cons]
      omega
theorem errA_mem {n : Nat} : ∀ {l : List PassQ}, errA n l = 0 → ∀ p ∈ l, errI n p.1.1 p.1.2.1 p.1.2.2 = 0
  | [], _, p, h => by simp at h
  | q :: l, h, p, hp => by
    rw [errA] at h
    split at h
    · rename_i h0
      rcases List.mem_cons.1 hp with rfl | hp
      · exact h0
      · exact errA_mem h p hp
    · rename_i h0; exact absurd h h0
end Go.Proofs.Ytochkebkfoophaa.Tev
