/- SectionWalks in plain numbers: from the first subscripts on, one after the other, all elements are met, in the order of their places. -/
import Derived.Test.YticjlkommabcjaaSecPlc
import Derived.Test.YticjlkommabcjaaPSx18
import Derived.Test.YticjlkommabcjaaPSx21
import Derived.Test.YticjlkommabcjaaPSx37
set_option linter.unusedVariables false
namespace Go.Proofs.Yticjlkommabcjaa.Pure
open Go.RowKit Go.Proofs.YticjlkommabcjaaW.PrintWords Go.Proofs.YticjlkommabcjaaW.PrintMore Go.Proofs.Yticjlkommabcjaa.PS Go.Proofs.Yticjlkommabcjaa.Ar

/-- Subscripts that are within the extents. -/
def dig : List Int → List Int → Prop
  | n :: E, x :: X => 0 ≤ x ∧ x < n ∧ dig E X
  | [], [] => True
  | _, _ => False
/-- The how manieth they are. -/
def val : List Int → List Int → Nat
  | n :: E, x :: X => x.toNat + n.toNat * val E X
  | _, _ => 0
/-- Their place. -/
def pw : List Int → List Int → Int → Int
  | s :: S, x :: X, a => pw S X (wrap64 (a + wrap64 (x * s)))
  | _, _, a => a
/-- The next ones. -/
def inc : List Int → List Int → Bool × List Int
  | n :: E, x :: X => if wrap64 (x + 1) < n then (true, wrap64 (x + 1) :: X) else ((inc E X).1, 0 :: (inc E X).2)
  | _, X => (false, X)
def npr : List Int → Nat
  | [] => 1
  | n :: E => n.toNat * npr E

theorem npr_pr : ∀ {E : List Int}, (∀ e ∈ E, 0 ≤ e) → (npr E : Int) = pr E
  | [], _ => rfl
  | n :: E, h => by
    have h1 := h n (by simp)
    rw [npr, pr, ← npr_pr (E := E) (fun e he => h e (by simp [he]))]
    push_cast
    rw [show (n.toNat : Int) = n from by omega]
theorem dig_len : ∀ {E X : List Int}, dig E X → X.length = E.length
  | [], [], _ => rfl
  | _ :: E, _ :: X, h => by simp [dig_len (E := E) (X := X) h.2.2]
  | [], _ :: _, h => h.elim
  | _ :: _, [], h => h.elim
theorem val_lt : ∀ {E X : List Int}, dig E X → val E X < npr E
  | [], [], _ => by simp [val, npr]
  | n :: E, x :: X, h => by
    have h1 := val_lt (E := E) (X := X) h.2.2
    have := h.1
    have := h.2.1
    rw [val, npr]
    have h2 : n.toNat * (val E X + 1) ≤ n.toNat * npr E := Nat.mul_le_mul_left _ h1
    rw [Nat.mul_add] at h2
    omega
  | [], _ :: _, h => h.elim
  | _ :: _, [], h => h.elim
theorem inc_spec : ∀ {E X : List Int}, (∀ e ∈ E, e ≤ 4000) → dig E X → if (inc E X).1 = true then dig E (inc E X).2 ∧ val E (inc E X).2 = val E X + 1 else val E X + 1 = npr E
  | [], [], _, _ => by simp [inc, val, npr]
  | n :: E, x :: X, hE, h => by
    have h0 := h.1
    have h1 := h.2.1
    have hn := hE n (by simp)
    have ih := inc_spec (E := E) (X := X) (fun e he => hE e (by simp [he])) h.2.2
    rw [inc, w64 (x := x + 1) (by omega) (by omega)]
    by_cases hx : x + 1 < n
    · rw [if_pos hx, if_pos rfl]
      refine ⟨⟨by omega, hx, h.2.2⟩, ?_⟩
      rw [val, val]
      omega
    · rw [if_neg hx]
      dsimp only
      have e : x.toNat + 1 = n.toNat := by omega
      by_cases hi : (inc E X).1 = true
      · rw [if_pos hi] at ih ⊢
        refine ⟨⟨by omega, by omega, ih.1⟩, ?_⟩
        rw [val, val, ih.2, Nat.mul_add]
        omega
      · rw [if_neg hi] at ih ⊢
        rw [val, npr, ← ih, Nat.mul_add]
        omega
  | [], _ :: _, _, h => h.elim
  | _ :: _, [], _, h => h.elim

theorem dimW_get {out : List Int} {s a : Int} {jj : Nat} (ha : out[jj]? = some a) (hj : jj < out.length) : ∀ (d : Nat) (j : Int) (t : Nat), t < d → (dimW out s d j)[jj + out.length * t]? = some (wrap64 (a + wrap64 ((j + t) * s)))
  | 0, _, _, h => by omega
  | d + 1, j, 0, _ => by
    rw [dimW_succ, Nat.mul_zero, Nat.add_zero, List.getElem?_append_left (by rw [rowW_length]; exact hj)]
    unfold rowW
    rw [List.getElem?_map, ha]
    simp
  | d + 1, j, t + 1, h => by
    rw [dimW_succ, List.getElem?_append_right (by rw [rowW_length, Nat.mul_add]; omega), rowW_length, show jj + out.length * (t + 1) - out.length = jj + out.length * t from by rw [Nat.mul_add]; omega, dimW_get ha hj d (j + 1) t (by omega),
      show j + 1 + (t : Int) = j + ((t + 1 : Nat) : Int) from by push_cast; omega]
theorem plc_get : ∀ (E S X out : List Int) (j : Nat) (a : Int), S.length = E.length → dig E X → out[j]? = some a → j < out.length → (plcW E S out)[j + out.length * val E X]? = some (pw S X a)
  | [], S, [], out, j, a, _, _, ha, _ => by simpa [plcW, val, pw] using ha
  | n :: E, s :: S, x :: X, out, j, a, hS, h, ha, hj => by
    have h0 := h.1
    have h1 := h.2.1
    have g := dimW_get (s := s) ha hj n.toNat 0 x.toNat (by omega)
    rw [show (0 : Int) + (x.toNat : Int) = x from by omega] at g
    have ih := plc_get E S X (dimW out s n.toNat 0) (j + out.length * x.toNat) _ (by simpa using hS) h.2.2 g (by
      rw [dimW_length]
      have : out.length * (x.toNat + 1) ≤ out.length * n.toNat := Nat.mul_le_mul_left _ (by omega)
      rw [Nat.mul_add, Nat.mul_comm _ n.toNat] at this
      omega)
    rw [plcW, pw, val, ← ih, dimW_length]
    congr 1
    rw [Nat.mul_add, ← Nat.mul_assoc, Nat.mul_comm out.length n.toNat]
    omega
  | _ :: _, [], _, _, _, _, hS, _, _, _ => by simp at hS
  | [], _, _ :: _, _, _, _, _, h, _, _ => h.elim
  | _ :: _, _ :: _, [], _, _, _, _, h, _, _ => h.elim

theorem dig_drop {E X : List Int} {i : Int} (h0 : 0 ≤ i) (hE : i < E.length) (hX : X.length = E.length) (h : dig (E.drop i.toNat) (X.drop i.toNat)) : 0 ≤ rd X i ∧ rd X i < rd E i ∧ dig (E.drop (i + 1).toNat) (X.drop (i + 1).toNat) := by
  rw [drop_rd h0 hE, drop_rd (l := X) h0 (by omega)] at h
  exact h
theorem at_loop (b : Int) (E S X : List Int) (hX : X.length = E.length) (hS : S.length = E.length) (hl : E.length ≤ 3) : ∀ (d k : Nat) (i a : Int), 0 ≤ i → i + d = X.length → dig (E.drop i.toNat) (X.drop i.toNat) →
    section_At.l0 (k + d + 1) a X X.length i b E S = some (pw (S.drop i.toNat) (X.drop i.toNat) a, 0) := by
  intro d
  induction d with
  | zero =>
    intro k i a h0 h1 h2
    rw [section_At.l0, if_neg (by omega), List.drop_eq_nil_of_le (show X.length ≤ i.toNat by omega), List.drop_eq_nil_of_le (show S.length ≤ i.toNat by omega)]
    rfl
  | succ d ih =>
    intro k i a h0 h1 h2
    obtain ⟨g0, g1, g2⟩ := dig_drop h0 (by omega) hX h2
    rw [show k + (d + 1) + 1 = (k + d + 1) + 1 from by omega, section_At.l0, w64 (x := i + 1) (by omega) (by omega), ih k (i + 1) _ (by omega) (by omega) g2]
    simp only [if_pos h0, if_pos (show i < (X.length : Int) by omega), if_neg (show ¬ rd X i < 0 by omega), if_pos (show i < (E.length : Int) by omega), if_neg (show ¬ rd X i ≥ rd E i by omega), if_pos (show i < (S.length : Int) by omega)]
    rw [drop_rd (l := S) h0 (by omega), drop_rd (l := X) h0 (by omega), pw]
theorem at_val {b : Int} {E S X : List Int} (h : okD b E S) (hb : b ≤ 9223372036854775807) (hX : dig E X) (k : Nat) (hk : 50 ≤ k) : section_At.f k b E S X = some (pw S X b, 0) := by
  have hL := dig_len hX
  have hl := h.1.1
  have hS := h.2.2.1
  unfold section_At.f
  rw [valid_f b E S hb (by omega) _ (by omega), decide_eq_true h]
  simp only [Option.bind_some, if_true]
  obtain ⟨k, rfl⟩ : ∃ m, k = m + 1 := ⟨k - 1, by omega⟩
  rw [section_At.j0, if_neg (by rw [show (X.length : Int) = E.length from by omega]; simp), show k = (k - X.length - 1) + X.length + 1 from by omega, at_loop b E S X hL hS hl X.length _ 0 b (by omega) (by omega) hX]
  rfl

theorem next_scan (E X : List Int) (hX : X.length = E.length) (hl : E.length ≤ 3) : ∀ (d k : Nat) (i : Int), 0 ≤ i → i + d = X.length → dig (E.drop i.toNat) (X.drop i.toNat) →
    section_Next.l0 (k + d + 1) E X X X.length i = section_Next.l1 k E X X.length 0 := by
  intro d
  induction d with
  | zero =>
    intro k i h0 h1 h2
    rw [section_Next.l0, if_neg (by omega)]
  | succ d ih =>
    intro k i h0 h1 h2
    obtain ⟨g0, g1, g2⟩ := dig_drop h0 (by omega) hX h2
    rw [show k + (d + 1) + 1 = (k + d + 1) + 1 from by omega, section_Next.l0, w64 (x := i + 1) (by omega) (by omega), ih k (i + 1) (by omega) (by omega) g2]
    simp only [if_pos h0, if_pos (show i < (X.length : Int) by omega), if_neg (show ¬ rd X i < 0 by omega), if_pos (show i < (E.length : Int) by omega), if_neg (show ¬ rd X i ≥ rd E i by omega)]
theorem set_at {l : List Int} {i : Int} (v : Int) (h0 : 0 ≤ i) (h1 : i < l.length) : l.set i.toNat v = l.take i.toNat ++ v :: l.drop (i + 1).toNat := by
  rw [List.set_eq_take_append_cons_drop, if_pos (by omega), show (i + 1).toNat = i.toNat + 1 from by omega]
theorem rd_set {l : List Int} {i : Int} (v : Int) (h0 : 0 ≤ i) (h1 : i < l.length) : rd (l.set i.toNat v) i = v := by
  have h2 : i.toNat < l.length := by omega
  simp [rd, List.getD_eq_getElem?_getD, h2]
theorem next_inc (E : List Int) (hl : E.length ≤ 3) : ∀ (d k : Nat) (X : List Int) (i : Int), X.length = E.length → 0 ≤ i → i + d = X.length →
    section_Next.l1 (k + d + 1) E X X.length i = some ((inc (E.drop i.toNat) (X.drop i.toNat)).1, X.take i.toNat ++ (inc (E.drop i.toNat) (X.drop i.toNat)).2) := by
  intro d
  induction d with
  | zero =>
    intro k X i hX h0 h1
    rw [section_Next.l1, if_neg (by omega), List.drop_eq_nil_of_le (show X.length ≤ i.toNat by omega), List.drop_eq_nil_of_le (show E.length ≤ i.toNat by omega), List.take_of_length_le (by omega)]
    simp [inc]
  | succ d ih =>
    intro k X i hX h0 h1
    have q1 : i < (X.length : Int) := by omega
    have q2 : i < (E.length : Int) := by omega
    rw [drop_rd h0 q2, drop_rd h0 q1, inc]
    have ih := ih k ((X.set i.toNat (wrap64 (rd X i + 1))).set i.toNat 0) (i + 1) (by simpa using hX) (by omega) (by simp only [List.length_set]; omega)
    rw [List.set_set] at ih
    simp only [List.length_set] at ih
    have t1 : (X.set i.toNat 0).take (i + 1).toNat = X.take i.toNat ++ [0] := by
      rw [set_at 0 h0 q1, List.take_append, List.length_take, List.take_take, show min (i + 1).toNat i.toNat = i.toNat from by omega, show (i + 1).toNat - min i.toNat X.length = 1 from by omega]
      rfl
    have t2 : (X.set i.toNat 0).drop (i + 1).toNat = X.drop (i + 1).toNat := by
      rw [List.drop_set_of_lt (by omega)]
    rw [t1, t2] at ih
    rw [show k + (d + 1) + 1 = (k + d + 1) + 1 from by omega, section_Next.l1, w64 (x := i + 1) (by omega) (by omega)]
    simp only [if_pos q1, if_pos q2, if_pos h0, Option.bind_some, rd_set _ h0 q1, List.set_set, ih]
    by_cases c : wrap64 (rd X i + 1) < rd E i
    · rw [if_pos c, if_pos c, set_at _ h0 q1]
    · rw [if_neg c, if_neg c, List.append_assoc]
      rfl
theorem next_val {E X : List Int} (hl : E.length ≤ 3) (hX : dig E X) (k : Nat) (hk : 20 ≤ k) : section_Next.f k E X = some (inc E X) := by
  have hL := dig_len hX
  unfold section_Next.f
  rw [if_pos (by omega), show k = (k - 2 * X.length - 2 + X.length + 1) + X.length + 1 from by omega, next_scan E X hL hl X.length _ 0 (by omega) (by omega) hX, next_inc E hl X.length _ X 0 hL (by omega) (by omega)]
  rfl

theorem walk_loop {b : Int} {E S : List Int} (h : okD b E S) (hb : b ≤ 9223372036854775807) (hp : prod E ≠ 0) : ∀ (d k : Nat) (i : Int) (X : List Int), 200 ≤ k → 0 ≤ i → i + (d + 1) = (plcW E S [b]).length → dig E X → (val E X : Int) = i →
    quadratlaw06_SectionWalks.l0 (k + d + 2) (plcW E S [b]) X i b E S = some true := by
  have hE := h.1
  have hS := h.2.2.1
  have h1 := exts_pos hE hp
  have hlen : ((plcW E S [b]).length : Int) = npr E := by
    rw [plcW_length E S [b] hS (fun e he => (hE.2 e he).1), npr_pr (fun e he => (hE.2 e he).1)]
    simp
  have hle : prod E ≤ 4000 := h.2.1
  rw [prod_pr, ← npr_pr (fun e he => (hE.2 e he).1)] at hle
  intro d
  induction d with
  | zero =>
    intro k i X hk h0 hi hX hv
    have g := plc_get E S X [b] 0 b hS hX rfl (by simp)
    rw [Nat.zero_add, List.length_singleton, Nat.one_mul] at g
    have hr : rd (plcW E S [b]) i = pw S X b := by
      rw [← hv]
      simp [rd, List.getD_eq_getElem?_getD, g]
    have sp := inc_spec (fun e he => (hE.2 e he).2) hX
    have hf : (inc E X).1 = false := by
      rw [Bool.eq_false_iff]
      intro hc
      rw [if_pos hc] at sp
      have := val_lt sp.1
      omega
    rw [show k + 0 + 2 = (k + 1) + 1 from rfl, quadratlaw06_SectionWalks.l0, if_pos (by omega), at_val h hb hX _ (by omega), next_val hE.1 hX _ (by omega)]
    simp only [Option.bind_some, if_true, if_pos h0, hr, hf]
    rw [w64 (x := i + 1) (by omega) (by omega), w64 (by omega) (by omega), decide_eq_false (by omega)]
    simp only [bne_self_eq_false, Bool.false_eq_true, if_false]
    rw [quadratlaw06_SectionWalks.l0, if_neg (by omega), awk_snd _ (by omega)]
  | succ d ih =>
    intro k i X hk h0 hi hX hv
    have g := plc_get E S X [b] 0 b hS hX rfl (by simp)
    rw [Nat.zero_add, List.length_singleton, Nat.one_mul] at g
    have hr : rd (plcW E S [b]) i = pw S X b := by
      rw [← hv]
      simp [rd, List.getD_eq_getElem?_getD, g]
    have sp := inc_spec (fun e he => (hE.2 e he).2) hX
    have hf : (inc E X).1 = true := by
      rw [← Bool.not_eq_false]
      intro hc
      rw [if_neg (by rw [hc]; decide)] at sp
      omega
    rw [if_pos hf] at sp
    rw [show k + (d + 1) + 2 = (k + d + 2) + 1 from by omega, quadratlaw06_SectionWalks.l0, if_pos (by omega), at_val h hb hX _ (by omega), next_val hE.1 hX _ (by omega)]
    simp only [Option.bind_some, if_true, if_pos h0, hr, hf]
    rw [w64 (x := i + 1) (by omega) (by omega), w64 (by omega) (by omega), decide_eq_true (by omega)]
    simp only [bne_self_eq_false, Bool.false_eq_true, if_false]
    exact ih k (i + 1) (inc E X).2 hk (by omega) (by omega) sp.1 (by omega)

theorem dig_zero : ∀ {E : List Int}, (∀ e ∈ E, 1 ≤ e) → dig E (List.replicate E.length 0) ∧ val E (List.replicate E.length 0) = 0
  | [], _ => by simp [dig, val]
  | n :: E, h => by
    have h1 := h n (by simp)
    have ih := dig_zero (E := E) (fun e he => h e (by simp [he]))
    rw [List.length_cons, List.replicate_succ]
    exact ⟨⟨by omega, by omega, ih.1⟩, by rw [val, ih.2]; simp⟩

theorem SectionWalks : ∀ (x0 : S31), (((Lit.int .i64 x0.f0).wf = true) ∧ (x0.f1.length * 8 ≤ 140737488351232 ∧ ∀ e0_ ∈ x0.f1, (Lit.int .i64 e0_).wf = true) ∧ (x0.f2.length * 8 ≤ 140737488351232 ∧ ∀ e0_ ∈ x0.f2, (Lit.int .i64 e0_).wf = true)) → ∃ k, quadratlaw06_SectionWalks.f k (x0.f0) (x0.f1) (x0.f2) = some true := by
  intro x0 h0
  obtain ⟨b, E, S⟩ := x0
  have hb := (i64_wf b).1 h0.1
  have hS := h0.2.2.1
  dsimp only at hS
  refine ⟨1000, ?_⟩
  show quadratlaw06_SectionWalks.f 1000 b E S = some true
  unfold quadratlaw06_SectionWalks.f
  rw [places_f b E S (by omega) (by omega) _ (by omega)]
  have hA : ∀ L, quadratlaw06_SectionWalks.j0 (999 + 1) L true b E S = some true := fun L => by
    rw [quadratlaw06_SectionWalks.j0, if_pos rfl, awk_snd _ (by omega)]
  by_cases h : okD b E S
  · rw [if_pos h]
    simp only [Option.bind_some, if_true]
    by_cases hl : ((plcR b E S).length : Int) > 500
    · rw [decide_eq_true hl]
      exact hA _
    · rw [decide_eq_false hl, show (1000 : Nat) = 998 + 1 + 1 from rfl, quadratlaw06_SectionWalks.j0, if_neg (by decide), if_pos (by omega), if_pos (by have := h.1.1; omega), show ((E.length : Int)).toNat = E.length from by omega]
      unfold plcR at hl ⊢
      by_cases hp : prod E = 0
      · rw [if_pos hp, quadratlaw06_SectionWalks.l0, if_neg (by simp), awk_snd _ (by omega)]
      · rw [if_neg hp] at hl ⊢
        have h1 := exts_pos h.1 hp
        have z := dig_zero h1
        have hlen : ((plcW E S [b]).length : Int) = npr E := by
          rw [plcW_length E S [b] h.2.2.1 (fun e he => (h.1.2 e he).1), npr_pr (fun e he => (h.1.2 e he).1)]
          simp
        have := val_lt z.1
        rw [show (998 + 1 : Nat) = (998 - (plcW E S [b]).length) + ((plcW E S [b]).length - 1) + 2 from by omega]
        exact walk_loop h (by omega) hp ((plcW E S [b]).length - 1) _ 0 _ (by omega) (by omega) (by omega) z.1 (by rw [z.2]; rfl)
  · rw [if_neg h]
    simp only [Option.bind_some]
    rw [if_neg (by decide)]
    exact hA _
end Go.Proofs.Yticjlkommabcjaa.Pure
