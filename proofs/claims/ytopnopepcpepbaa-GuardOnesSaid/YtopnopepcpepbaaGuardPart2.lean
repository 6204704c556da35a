/- Part, First and Safe: the guard's answers and the document's are the same, and what they say. -/
import Derived.Test.YtopnopepcpepbaaGuardPart
import Derived.Test.YtopnopepcpepbaaPGx2
import Derived.Test.YtopnopepcpepbaaPGx4
import Derived.Test.YtopnopepcpepbaaPGx5
import Derived.Test.YtopnopepcpepbaaPGx6
import Derived.Test.YtopnopepcpepbaaPGx7
import Derived.Test.YtopnopepcpepbaaPGx8
import Derived.Test.YtopnopepcpepbaaPGx9
set_option linter.unusedVariables false
namespace Go.Proofs.Ytopnopepcpepbaa.Pure
open Go.RowKit Go.Proofs.YtopnopepcpepbaaW.PrintWords Go.Proofs.YtopnopepcpepbaaW.PrintMore Go.Proofs.Ytopnopepcpepbaa.PG Go.Proofs.Ytopnopepcpepbaa.Ar

theorem ask4 {a b low high lo hi st : Int} (h : askE lo hi st [a, b, low, high] = 0) : st ≠ 0 ∧ near lo ∧ near hi ∧ near st ∧ near a ∧ near b ∧ near low ∧ near high := by
  obtain ⟨h1, h2, h3, h4, h5⟩ := askE_ok h
  exact ⟨h1, h2, h3, h4, h5 a (by simp), h5 b (by simp), h5 low (by simp), h5 high (by simp)⟩

theorem mulN {a b : Int} (h1 : near a) (h2 : near b) : -1000000000000 ≤ a * b ∧ a * b ≤ 1000000000000 := by
  unfold near at h1 h2
  have := mul_bd (A := 1000000) (B := 1000000) h1.1 h1.2 h2.1 h2.2
  omega

theorem mul_neg_iff {a b : Int} : a * b < 0 ↔ -(a * b) > 0 := by omega

theorem part_g {a b lo hi st low high : Int} (h : askE lo hi st [a, b, low, high] = 0) (k : Nat) (hk : 300 ≤ k) :
    ∃ f t, guard_Part.f k a b lo hi st low high = some (f, t, 0) ∧ PartSpec a b lo st low high (cnt lo hi st) f t := by
  obtain ⟨hs, n1, n2, n3, n4, n5, n6, n7⟩ := ask4 h
  have m1 := mulN n4 n1
  have m2 := mulN n4 n3
  have hn0 := cnt_nonneg lo hi st
  have hn1 := cnt_le (lo := lo) (hi := hi) (D := 2000000) hs (by unfold near at *; omega) (by unfold near at *; omega)
  unfold guard_Part.f
  rw [asked_g lo hi st _ (by simp) k (by omega), h]
  simp only [Option.bind_some, if_true]
  rw [turns_g hs n1 n2 n3]
  simp only [Option.bind_some]
  unfold near at n4 n5 n6 n7
  rw [w64 (x := a * st) (by omega) (by omega), w64 (x := a * lo) (by omega) (by omega), w64 (x := a * lo + b) (by omega) (by omega), w64 (x := -high) (by omega) (by omega), w64 (x := -low) (by omega) (by omega), w64 (x := -(a * lo + b)) (by omega) (by omega), w64 (x := -(a * st)) (by omega) (by omega)]
  have hv := val_step a b lo st
  by_cases h0 : a * st = 0
  · rw [if_pos h0]
    by_cases hl : a * lo + b < low
    · rw [if_pos hl]
      refine ⟨0, 0, rfl, ⟨by omega, by omega, .inr ⟨rfl, rfl⟩, fun m h1 h2 => ?_⟩⟩
      rw [hv, h0, Int.mul_zero]
      omega
    · rw [if_neg hl]
      by_cases hh : a * lo + b > high
      · rw [if_pos hh]
        refine ⟨0, 0, rfl, ⟨by omega, by omega, .inr ⟨rfl, rfl⟩, fun m h1 h2 => ?_⟩⟩
        rw [hv, h0, Int.mul_zero]
        omega
      · rw [if_neg hh]
        refine ⟨0, _, rfl, ⟨by omega, by omega, by omega, fun m h1 h2 => ?_⟩⟩
        rw [hv, h0, Int.mul_zero]
        omega
  · rw [if_neg h0]
    by_cases hneg : a * st < 0
    · rw [if_pos hneg]
      obtain ⟨f, t, e1, e2, e3, e4, e5⟩ := j0_f (n := cnt lo hi st) (first := -(a * lo + b)) (step := -(a * st)) (low := -high) (high := -low) (by omega) (by omega) (by omega) (by omega) (by omega) (by omega) (by omega) hn0 (by omega) k (by omega)
      refine ⟨f, t, e1, ⟨e2, e3, e4, fun m h1 h2 => Iff.trans ?_ (e5 m h1 h2)⟩⟩
      rw [hv, Int.mul_neg]
      omega
    · rw [if_neg hneg]
      obtain ⟨f, t, e1, e2, e3, e4, e5⟩ := j0_f (n := cnt lo hi st) (first := a * lo + b) (step := a * st) (low := low) (high := high) (by omega) (by omega) (by omega) (by omega) (by omega) (by omega) (by omega) hn0 (by omega) k (by omega)
      refine ⟨f, t, e1, ⟨e2, e3, e4, fun m h1 h2 => Iff.trans ?_ (e5 m h1 h2)⟩⟩
      rw [hv]

theorem part_g_err {a b lo hi st low high : Int} (h : askE lo hi st [a, b, low, high] ≠ 0) (k : Nat) (hk : 300 ≤ k) : guard_Part.f k a b lo hi st low high = some (0, 0, askE lo hi st [a, b, low, high]) := by
  unfold guard_Part.f
  rw [asked_g lo hi st _ (by simp) k (by omega)]
  simp only [Option.bind_some]
  rw [if_neg h]

/-! ### the document's way: halving -/
theorem value_f {a b lo hi st m : Int} (hs : st ≠ 0) (n1 : near lo) (n2 : near hi) (n3 : near st) (n4 : near a) (n5 : near b) (h0 : 0 ≤ m) (h1 : m < cnt lo hi st) :
    quadratref22_value.f a b lo hi st m = some (val a b lo st m) ∧ -2000000000000 ≤ val a b lo st m ∧ val a b lo st m ≤ 2000000000000 := by
  have hin := cnt_in hs h0 h1
  have hb : -1000000 ≤ lo + m * st ∧ lo + m * st ≤ 1000000 := by
    unfold near at n1 n2
    rcases Int.lt_or_gt_of_ne hs with hn | hp
    · have := hin.2 hn; omega
    · have := hin.1 hp; omega
  have m1 := mulN n4 (show near (lo + m * st) from hb)
  unfold near at n1 n5
  refine ⟨?_, by unfold val; omega, by unfold val; omega⟩
  unfold quadratref22_value.f val
  rw [w64 (x := m * st) (by omega) (by omega), w64 (x := lo + m * st) (by omega) (by omega), w64 (x := a * (lo + m * st)) (by omega) (by omega), w64 (by omega) (by omega)]

/-- Is a value past a bound? -/
def Past (rises strict : Bool) (bound v : Int) : Prop := if rises = true then (v > bound ∨ (v = bound ∧ strict = false)) else (v < bound ∨ (v = bound ∧ strict = false))

theorem where_loop {a b lo hi st bound : Int} {rises strict : Bool} (hs : st ≠ 0) (n1 : near lo) (n2 : near hi) (n3 : near st) (n4 : near a) (n5 : near b)
    (hmono : ∀ m m', 0 ≤ m → m ≤ m' → m' < cnt lo hi st → Past rises strict bound (val a b lo st m) → Past rises strict bound (val a b lo st m')) (hn : cnt lo hi st ≤ 4000000) :
    ∀ (d k : Nat) (x y : Int), 0 ≤ x → x ≤ y → y ≤ cnt lo hi st → y - x ≤ d → d < k → (∀ m, 0 ≤ m → m < x → ¬ Past rises strict bound (val a b lo st m)) → (∀ m, y ≤ m → m < cnt lo hi st → Past rises strict bound (val a b lo st m)) →
    ∃ r, quadratref22_where.l0 k a b bound strict rises x y lo hi st = some r ∧ 0 ≤ r ∧ r ≤ cnt lo hi st ∧ ∀ m, 0 ≤ m → m < cnt lo hi st → (Past rises strict bound (val a b lo st m) ↔ r ≤ m) := by
  intro d
  induction d with
  | zero =>
    intro k x y h0 h1 h2 hd hk hx hy
    obtain ⟨k, rfl⟩ : ∃ m, k = m + 1 := ⟨k - 1, by omega⟩
    refine ⟨x, by simp only [quadratref22_where.l0]; rw [if_neg (by omega)], h0, by omega, fun m m0 m1 => ⟨fun hp => ?_, fun hm => hy m (by omega) m1⟩⟩
    exact Decidable.byContradiction fun hc => hx m m0 (by omega) hp
  | succ d ih =>
    intro k x y h0 h1 h2 hd hk hx hy
    obtain ⟨k, rfl⟩ : ∃ m, k = m + 1 := ⟨k - 1, by omega⟩
    simp only [quadratref22_where.l0]
    by_cases hlt : x < y
    · have hmid : wrap64 (Int.tdiv (wrap64 (x + y)) 2) = (x + y) / 2 := by
        rw [w64 (x := x + y) (by omega) (by omega), Int.tdiv_eq_ediv_of_nonneg (by omega), w64 (by omega) (by omega)]
      rw [if_pos hlt, hmid]
      obtain ⟨hv, hv1, hv2⟩ := value_f (b := b) hs n1 n2 n3 n4 n5 (m := (x + y) / 2) (by omega) (by omega)
      rw [hv]
      simp only [Option.bind_some]
      have hup : Past rises strict bound (val a b lo st ((x + y) / 2)) → ∃ r, quadratref22_where.l0 k a b bound strict rises x ((x + y) / 2) lo hi st = some r ∧ 0 ≤ r ∧ r ≤ cnt lo hi st ∧ ∀ m, 0 ≤ m → m < cnt lo hi st → (Past rises strict bound (val a b lo st m) ↔ r ≤ m) :=
        fun hp => ih k x ((x + y) / 2) h0 (by omega) (by omega) (by omega) (by omega) hx (fun m m0 m1 => hmono _ m (by omega) m0 m1 hp)
      have hdn : ¬ Past rises strict bound (val a b lo st ((x + y) / 2)) → ∃ r, quadratref22_where.l0 k a b bound strict rises ((x + y) / 2 + 1) y lo hi st = some r ∧ 0 ≤ r ∧ r ≤ cnt lo hi st ∧ ∀ m, 0 ≤ m → m < cnt lo hi st → (Past rises strict bound (val a b lo st m) ↔ r ≤ m) :=
        fun hp => ih k ((x + y) / 2 + 1) y (by omega) (by omega) h2 (by omega) (by omega) (fun m m0 m1 hq => hp (hmono m _ m0 (by omega) (by omega) hq)) hy
      rw [w64 (x := (x + y) / 2 + 1) (by omega) (by omega)]
      generalize hV : val a b lo st ((x + y) / 2) = V at hup hdn
      unfold Past at hup hdn
      cases rises
      · simp only [if_neg (show ¬ (false = true) by decide)] at hup hdn ⊢
        by_cases c1 : V < bound
        · rw [if_pos c1]; exact hup (.inl c1)
        · rw [if_neg c1]
          by_cases c2 : V = bound
          · rw [if_pos c2]
            cases strict
            · rw [if_neg (by decide)]; exact hup (.inr ⟨c2, rfl⟩)
            · rw [if_pos rfl]; exact hdn (by simp; omega)
          · rw [if_neg c2]; exact hdn (by rintro (h | ⟨h, _⟩) <;> omega)
      · simp only [if_true] at hup hdn ⊢
        by_cases c1 : V > bound
        · rw [if_pos c1]; exact hup (.inl c1)
        · rw [if_neg c1]
          by_cases c2 : V = bound
          · rw [if_pos c2]
            cases strict
            · rw [if_neg (by decide)]; exact hup (.inr ⟨c2, rfl⟩)
            · rw [if_pos rfl]; exact hdn (by simp; omega)
          · rw [if_neg c2]; exact hdn (by rintro (h | ⟨h, _⟩) <;> omega)
    · rw [if_neg hlt]
      refine ⟨x, rfl, h0, by omega, fun m m0 m1 => ⟨fun hp => ?_, fun hm => hy m (by omega) m1⟩⟩
      exact Decidable.byContradiction fun hc => hx m m0 (by omega) hp

theorem where_f {a b lo hi st bound : Int} {strict : Bool} (hs : st ≠ 0) (ha : a * st ≠ 0) (n1 : near lo) (n2 : near hi) (n3 : near st) (n4 : near a) (n5 : near b) (hn : cnt lo hi st ≤ 4000000) (k : Nat) (hk : 5000000 ≤ k) :
    ∃ r, quadratref22_where.f k a b lo hi st (cnt lo hi st) bound strict = some r ∧ 0 ≤ r ∧ r ≤ cnt lo hi st ∧ ∀ m, 0 ≤ m → m < cnt lo hi st → (Past (decide (a * st > 0)) strict bound (val a b lo st m) ↔ r ≤ m) := by
  have m2 := mulN n4 n3
  unfold quadratref22_where.f
  rw [w64 (x := a * st) (by omega) (by omega)]
  refine where_loop hs n1 n2 n3 n4 n5 (fun m m' h0 h1 h2 hp => ?_) hn 4000000 k 0 _ (by omega) (cnt_nonneg _ _ _) (by omega) (by omega) (by omega) (fun m h1 h2 => by omega) (fun m h1 h2 => by omega)
  rw [val_step] at hp ⊢
  unfold Past at hp ⊢
  by_cases hpos : a * st > 0
  · have e := Int.mul_le_mul_of_nonneg_right h1 (show 0 ≤ a * st by omega)
    simp only [decide_eq_true hpos, if_true] at hp ⊢
    rcases Int.lt_or_eq_of_le e with e | e
    · exact .inl (by omega)
    · rw [← e]; exact hp
  · have e := Int.mul_le_mul_of_nonneg_right h1 (show 0 ≤ -(a * st) by omega)
    rw [Int.mul_neg, Int.mul_neg] at e
    simp only [decide_eq_false hpos, if_neg (show ¬ (false = true) by decide)] at hp ⊢
    rcases Int.lt_or_eq_of_le e with e | e
    · exact .inl (by omega)
    · rw [show m' * (a * st) = m * (a * st) from by omega]; exact hp

theorem part_r {a b lo hi st low high : Int} (h : askE lo hi st [a, b, low, high] = 0) (k : Nat) (hk : 6000000 ≤ k) :
    ∃ f t, quadratref22_Part.f k a b lo hi st low high = some (f, t, 0) ∧ PartSpec a b lo st low high (cnt lo hi st) f t := by
  obtain ⟨hs, n1, n2, n3, n4, n5, n6, n7⟩ := ask4 h
  have m1 := mulN n4 n1
  have m2 := mulN n4 n3
  have hn0 := cnt_nonneg lo hi st
  have hn1 := cnt_le (lo := lo) (hi := hi) (D := 2000000) hs (by unfold near at *; omega) (by unfold near at *; omega)
  suffices hh : ∃ f t, quadratref22_part.f k a b lo hi st low high = some (f, t) ∧ PartSpec a b lo st low high (cnt lo hi st) f t by
    obtain ⟨f, t, e1, e2⟩ := hh
    refine ⟨f, t, ?_, e2⟩
    unfold quadratref22_Part.f
    rw [asked_r lo hi st _ (by simp) k (by omega), h]
    simp only [Option.bind_some, if_true]
    rw [e1]
    rfl
  unfold quadratref22_part.f
  rw [turns_r hs n1 n2 n3]
  simp only [Option.bind_some]
  have hv := val_step a b lo st
  by_cases h0 : a = 0
  · have hst : a * st = 0 := by rw [h0, Int.zero_mul]
    have hlo : a * lo = 0 := by rw [h0, Int.zero_mul]
    rw [if_pos h0]
    by_cases hl : b < low
    · rw [if_pos hl]
      refine ⟨0, 0, rfl, ⟨by omega, by omega, .inr ⟨rfl, rfl⟩, fun m h1 h2 => ?_⟩⟩
      rw [hv, hst, Int.mul_zero]
      omega
    · rw [if_neg hl]
      by_cases hh : b > high
      · rw [if_pos hh]
        refine ⟨0, 0, rfl, ⟨by omega, by omega, .inr ⟨rfl, rfl⟩, fun m h1 h2 => ?_⟩⟩
        rw [hv, hst, Int.mul_zero]
        omega
      · rw [if_neg hh]
        refine ⟨0, _, rfl, ⟨by omega, by omega, by omega, fun m h1 h2 => ?_⟩⟩
        rw [hv, hst, Int.mul_zero]
        omega
  · have hne : a * st ≠ 0 := by
      intro hc
      rcases Int.mul_eq_zero.1 hc with hc | hc
      · exact h0 hc
      · exact hs hc
    rw [if_neg h0, w64 (x := a * st) (by omega) (by omega)]
    obtain ⟨k, rfl⟩ : ∃ m, k = m + 1 := ⟨k - 1, by omega⟩
    by_cases hneg : a * st < 0
    · rw [if_pos hneg]
      simp only [quadratref22_part.j0]
      obtain ⟨f, f1, f2, f3, f4⟩ := where_f (bound := high) (strict := false) hs hne n1 n2 n3 n4 n5 (by omega) k (by omega)
      obtain ⟨t, t1, t2, t3, t4⟩ := where_f (bound := low) (strict := true) hs hne n1 n2 n3 n4 n5 (by omega) k (by omega)
      rw [f1]
      simp only [Option.bind_some]
      rw [t1]
      simp only [Option.bind_some]
      have key : ∀ m, 0 ≤ m → m < cnt lo hi st → ((low ≤ val a b lo st m ∧ val a b lo st m ≤ high) ↔ (f ≤ m ∧ m < t)) := by
        intro m g0 g1
        have k1 := f4 m g0 g1
        have k2 := t4 m g0 g1
        unfold Past at k1 k2
        simp only [decide_eq_false (show ¬ (a * st > 0) by omega), if_neg (show ¬ (false = true) by decide), and_true, and_false, or_false, show (true = false) = False from by simp] at k1 k2
        omega
      by_cases hge : f ≥ t
      · rw [if_pos hge]
        exact ⟨0, 0, rfl, ⟨by omega, by omega, .inr ⟨rfl, rfl⟩, fun m g0 g1 => (key m g0 g1).trans (by omega)⟩⟩
      · rw [if_neg hge]
        exact ⟨f, t, rfl, ⟨f2, t3, .inl (by omega), key⟩⟩
    · rw [if_neg hneg]
      simp only [quadratref22_part.j0]
      obtain ⟨f, f1, f2, f3, f4⟩ := where_f (bound := low) (strict := false) hs hne n1 n2 n3 n4 n5 (by omega) k (by omega)
      obtain ⟨t, t1, t2, t3, t4⟩ := where_f (bound := high) (strict := true) hs hne n1 n2 n3 n4 n5 (by omega) k (by omega)
      rw [f1]
      simp only [Option.bind_some]
      rw [t1]
      simp only [Option.bind_some]
      have key : ∀ m, 0 ≤ m → m < cnt lo hi st → ((low ≤ val a b lo st m ∧ val a b lo st m ≤ high) ↔ (f ≤ m ∧ m < t)) := by
        intro m g0 g1
        have k1 := f4 m g0 g1
        have k2 := t4 m g0 g1
        unfold Past at k1 k2
        simp only [decide_eq_true (show (a * st > 0) by omega), if_true, and_true, and_false, or_false, show (true = false) = False from by simp] at k1 k2
        omega
      by_cases hge : f ≥ t
      · rw [if_pos hge]
        exact ⟨0, 0, rfl, ⟨by omega, by omega, .inr ⟨rfl, rfl⟩, fun m g0 g1 => (key m g0 g1).trans (by omega)⟩⟩
      · rw [if_neg hge]
        exact ⟨f, t, rfl, ⟨f2, t3, .inl (by omega), key⟩⟩

theorem part_r_err {a b lo hi st low high : Int} (h : askE lo hi st [a, b, low, high] ≠ 0) (k : Nat) (hk : 300 ≤ k) : quadratref22_Part.f k a b lo hi st low high = some (0, 0, askE lo hi st [a, b, low, high]) := by
  unfold quadratref22_Part.f
  rw [asked_r lo hi st _ (by simp) k (by omega)]
  simp only [Option.bind_some]
  rw [if_neg h]

/-- Both ways answer the same. -/
theorem part_both (a b lo hi st low high : Int) (k : Nat) (hk : 6000000 ≤ k) :
    ∃ f t e, guard_Part.f k a b lo hi st low high = some (f, t, e) ∧ quadratref22_Part.f k a b lo hi st low high = some (f, t, e) ∧ e = askE lo hi st [a, b, low, high] ∧ (e = 0 → PartSpec a b lo st low high (cnt lo hi st) f t) ∧ (e ≠ 0 → f = 0 ∧ t = 0) := by
  by_cases h : askE lo hi st [a, b, low, high] = 0
  · obtain ⟨f, t, e1, e2⟩ := part_g h k (by omega)
    obtain ⟨f', t', e3, e4⟩ := part_r h k hk
    obtain ⟨rfl, rfl⟩ := e2.uniq e4
    exact ⟨f, t, 0, e1, e3, h.symm, fun _ => e2, fun hc => absurd rfl hc⟩
  · exact ⟨0, 0, _, part_g_err h k (by omega), part_r_err h k (by omega), rfl, fun hc => absurd hc h, fun _ => ⟨rfl, rfl⟩⟩

theorem turns_any (lo hi st : Int) : ∃ t, guard_turns.f lo hi st = some t := by
  unfold guard_turns.f section_Count.f section_isNumber.f
  by_cases a1 : lo ≥ -2147483648 <;> by_cases a2 : hi ≥ -2147483648 <;> by_cases a3 : st ≥ -2147483648 <;> by_cases b1 : lo ≤ 2147483648 <;> by_cases b2 : hi ≤ 2147483648 <;> by_cases b3 : st ≤ 2147483648 <;> by_cases c : st = 0 <;> simp [*]

/-- The first turn that is not safe: -1 if there is none. -/
def firstOf (n f t : Int) : Int := if f > 0 ∨ (t = 0 ∧ n > 0) then 0 else if t < n then t else -1

theorem first_both (a b lo hi st low high : Int) (k : Nat) (hk : 7000000 ≤ k) :
    ∃ r e, guard_First.f k a b lo hi st low high = some (r, e) ∧ quadratref22_First.f k a b lo hi st low high = some (r, e) ∧ e = askE lo hi st [a, b, low, high] ∧
      (e = 0 → ∃ f t, guard_Part.f k a b lo hi st low high = some (f, t, 0) ∧ PartSpec a b lo st low high (cnt lo hi st) f t ∧ r = firstOf (cnt lo hi st) f t) ∧ (e ≠ 0 → r = 0) := by
  obtain ⟨f, t, e, h1, h2, h3, h4, h5⟩ := part_both a b lo hi st low high k (by omega)
  unfold guard_First.f quadratref22_First.f
  obtain ⟨u, hu⟩ := turns_any lo hi st
  rw [h1, h2, hu]
  simp only [Option.bind_some]
  by_cases he : e = 0
  · obtain ⟨hs, n1, n2, n3, _⟩ := ask4 (h3.symm.trans he)
    have hu' := (turns_g hs n1 n2 n3).symm.trans hu
    obtain rfl : u = cnt lo hi st := (Option.some.inj hu').symm
    rw [if_pos he, if_pos he, turns_r hs n1 n2 n3]
    obtain ⟨k, rfl⟩ : ∃ m, k = m + 1 := ⟨k - 1, by omega⟩
    simp only [guard_First.j0, quadratref22_First.j0, turns_r hs n1 n2 n3, Option.bind_some]
    refine ⟨firstOf (cnt lo hi st) f t, e, ?_, ?_, h3, fun _ => ⟨f, t, by rw [he], h4 he, rfl⟩, fun hc => absurd he hc⟩
    all_goals
      unfold firstOf
      by_cases c1 : f > 0
      · simp [c1, he]
      · by_cases c2 : t = 0
        · by_cases c3 : cnt lo hi st > 0
          · simp [c1, c2, c3, he]
          · simp [c1, c2, c3, he]
            try omega
        · by_cases c3 : t < cnt lo hi st <;> simp [c1, c2, c3, he]
  · rw [if_neg he, if_neg he]
    exact ⟨0, e, rfl, rfl, h3, fun hc => absurd hc he, fun _ => rfl⟩

theorem safe_both (a b lo hi st low high : Int) (k : Nat) (hk : 7000000 ≤ k) :
    ∃ r s e, guard_First.f k a b lo hi st low high = some (r, e) ∧ quadratref22_First.f k a b lo hi st low high = some (r, e) ∧ guard_Safe.f k a b lo hi st low high = some (s, e) ∧ quadratref22_Safe.f k a b lo hi st low high = some (s, e) ∧ (e = 0 → s = decide (r < 0)) := by
  obtain ⟨r, e, h1, h2, _⟩ := first_both a b lo hi st low high k hk
  unfold guard_Safe.f quadratref22_Safe.f
  rw [h1, h2]
  simp only [Option.bind_some]
  by_cases he : e = 0
  · rw [if_pos he]
    exact ⟨r, _, e, rfl, rfl, rfl, rfl, fun _ => rfl⟩
  · rw [if_neg he]
    exact ⟨r, _, e, rfl, rfl, rfl, rfl, fun hc => absurd hc he⟩
end Go.Proofs.Ytopnopepcpepbaa.Pure
