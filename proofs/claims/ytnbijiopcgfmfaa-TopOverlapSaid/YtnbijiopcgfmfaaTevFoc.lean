/- The store laid anew. -/
import Derived.Test.YtnbijiopcgfmfaaTevCode
namespace Go.Proofs.Ytnbijiopcgfmfaa.Tev
open Go Go.RowKit
set_option linter.unusedSectionVars false
set_option linter.unusedVariables false
set_option linter.unusedSimpArgs false
/-- The elder name behind a new one. -/
def src : List (Nat × Nat) → Nat → Option Nat
  | [], _ => none
  | (o, n) :: r, i => if n = i then some o else src r i
def Ctx.ren (K : Ctx) (F : Foc) : Ctx := { K with σ := fun n => (src F.ren n).bind K.σ }
/-- An object and what is made of it. -/
def FocOb (S : St) (F : Foc) : Ob → Ob → Prop
  | .arr l g gen, y => ∃ g', look F.gs g = some g' ∧ y = .arr l g' (if tipOk g gen S.o = true then min gen 1 else 0)
  | .fz l, y => y = .fz l
  | .mp es c, y => y = .mp es c
  | .box _, y => ∃ l, y = .box l
  | .dead, _ => False
structure FI (K : Ctx) (S : St) (F : Foc) : Prop where
  lt : ∀ n o, src F.ren n = some o → n < F.n
  ob : ∀ n y, obj F.o n = some y → ∃ o x, src F.ren n = some o ∧ obj S.o o = some x ∧ FocOb S F x y
  objs : ∀ n y s, obj F.o n = some y → (K.ren F).σ n = some s → RO (K.ren F) s y
  gs : ∀ g g', look F.gs g = some g' → g' < F.n
  uniq : ∀ n n' o x, src F.ren n = some o → src F.ren n' = some o → obj S.o o = some x → (∀ l g e, x ≠ .arr l g e) → (∀ l, x ≠ .fz l) → n = n'
  back : ∀ o n, look F.ren o = some n → src F.ren n = some o
  live : ∀ n o, src F.ren n = some o → ∃ x, obj S.o o = some x

structure FLe (F F' : Foc) : Prop where
  src : ∀ n o, src F.ren n = some o → Tev.src F'.ren n = some o
  gs : ∀ g g', look F.gs g = some g' → look F'.gs g = some g'
  n : F.n ≤ F'.n
theorem FLe.refl (F : Foc) : FLe F F := ⟨fun _ _ h => h, fun _ _ h => h, Nat.le_refl _⟩
theorem FLe.trans {F F' F'' : Foc} (h : FLe F F') (g : FLe F' F'') : FLe F F'' := ⟨fun n o q => g.src n o (h.src n o q), fun a b q => g.gs a b (h.gs a b q), Nat.le_trans h.n g.n⟩
theorem FLe.ext {K : Ctx} {F F' : Foc} (h : FLe F F') : KExt (K.ren F) (K.ren F') := ⟨rfl, fun _ h => h, fun o s hs => by
    have hs' : (Tev.src F.ren o).bind K.σ = some s := hs
    obtain ⟨p, h1, h2⟩ := Option.bind_eq_some_iff.1 hs'
    show (Tev.src F'.ren o).bind K.σ = some s
    rw [h.src o p h1]; exact h2, fun _ _ => rfl, fun _ cs e fr h => ⟨cs, e, fr, h, rfl⟩⟩
theorem FocOb.mono {S : St} {F F' : Foc} (h : FLe F F') {x y : Ob} (q : FocOb S F x y) : FocOb S F' x y := by
  cases x <;> simp only [FocOb] at q ⊢ <;> first | exact q | (obtain ⟨g', h1, h2⟩ := q; exact ⟨g', h.gs _ _ h1, h2⟩)
theorem obj_snoc (l : List (Nat × Ob)) (n : Nat) (y : Ob) (hn : ∀ z, obj l n = some z → False) (i : Nat) : obj (l ++ [(n, y)]) i = if n = i then some y else obj l i := by
  induction l with
  | nil => simp [obj]
  | cons p l ih =>
    obtain ⟨k, z⟩ := p
    simp only [List.cons_append, obj]
    by_cases hk : k = i
    · rw [if_pos hk, if_pos hk]
      split
      · rename_i e; subst e; subst hk; exact (hn z (by simp [obj])).elim
      · rfl
    · rw [if_neg hk, if_neg hk]
      refine ih fun z' hz' => ?_
      by_cases hkn : k = n
      · exact hn z (by simp [obj, hkn])
      · exact hn z' (by simp [obj, hkn, hz'])
theorem look_of_src : ∀ (l : List (Nat × Nat)) (n o : Nat), src l n = some o → ∃ q, look l o = some q
  | [], n, o, h => by simp [src] at h
  | (k, i) :: l, n, o, h => by
    simp only [src] at h
    simp only [look]
    split at h
    · obtain rfl := Option.some.inj h; exact ⟨i, by simp⟩
    · by_cases hk : k = o
      · exact ⟨i, by simp [hk]⟩
      · obtain ⟨q, hq⟩ := look_of_src l n o h
        exact ⟨q, by rw [if_neg hk]; exact hq⟩
/-- One more object. -/
theorem FI.push {K : Ctx} {S : St} {F : Foc} (h : FI K S F) {o : Nat} {x y : Ob} {gs' : List (Nat × Nat)} (hx : obj S.o o = some x) (hgs : ∀ g g', look F.gs g = some g' → look gs' g = some g') (hgs' : ∀ g g', look gs' g = some g' → g' < F.n + 1)
    (hfo : FocOb S { F with gs := gs' } x y) (hu : (∀ l g e, x ≠ .arr l g e) → (∀ l, x ≠ .fz l) → look F.ren o = none)
    (hro : ∀ K2 : Ctx, K2.w = K.w → K2.F = K.F → K2.base = K.base → KExt (K.ren F) K2 → ∀ s, K.σ o = some s → RO K2 s y) :
    FI K S { ren := (o, F.n) :: F.ren, gs := gs', o := F.o ++ [(F.n, y)], n := F.n + 1 } ∧ FLe F { ren := (o, F.n) :: F.ren, gs := gs', o := F.o ++ [(F.n, y)], n := F.n + 1 } := by
  have hfree : ∀ z, obj F.o F.n = some z → False := fun z hz => by
    obtain ⟨p, _, h1, _⟩ := h.ob _ _ hz
    have := h.lt _ _ h1; omega
  have hsrc : ∀ n p, src F.ren n = some p → src ((o, F.n) :: F.ren) n = some p := fun n p hn => by
    have := h.lt _ _ hn
    simp only [src]; rw [if_neg (by omega)]; exact hn
  have hle : FLe F { ren := (o, F.n) :: F.ren, gs := gs', o := F.o ++ [(F.n, y)], n := F.n + 1 } := ⟨hsrc, hgs, Nat.le_succ _⟩
  refine ⟨⟨fun n p hn => ?_, fun n z hz => ?_, fun n z s hz hs => ?_, hgs', fun n n' p z h1 h2 h3 h4 h5 => ?_, fun p n hp => ?_, fun n p hn => ?_⟩, hle⟩
  · simp only [src] at hn
    split at hn
    · show n < F.n + 1; omega
    · have := h.lt _ _ hn; show n < F.n + 1; omega
  · rw [obj_snoc _ _ _ hfree] at hz
    split at hz
    · rename_i e; subst e
      obtain rfl := Option.some.inj hz
      exact ⟨o, x, by simp [src], hx, by cases x <;> exact hfo⟩
    · obtain ⟨p, x', h1, h2, h3⟩ := h.ob _ _ hz
      exact ⟨p, x', hsrc _ _ h1, h2, h3.mono hle⟩
  · rw [obj_snoc _ _ _ hfree] at hz
    split at hz
    · rename_i e; subst e
      obtain rfl := Option.some.inj hz
      refine hro (K.ren { ren := (o, F.n) :: F.ren, gs := gs', o := F.o ++ [(F.n, y)], n := F.n + 1 }) rfl rfl rfl hle.ext s ?_
      have hs' : (src ((o, F.n) :: F.ren) F.n).bind K.σ = some s := hs
      simpa [src] using hs'
    · have hne : F.n ≠ n := by assumption
      have hs' : (K.ren F).σ n = some s := by
        have h0 : (src ((o, F.n) :: F.ren) n).bind K.σ = some s := hs
        simp only [src, if_neg hne] at h0
        exact h0
      exact RO.mono hle.ext (fun _ _ _ h => h) (fun _ _ _ => rfl) (h.objs n z s hz hs')
  · simp only [src] at h1 h2
    split at h1
    · rename_i e1
      obtain rfl := Option.some.inj h1
      split at h2
      · omega
      · rw [hx] at h3; obtain rfl := Option.some.inj h3
        have := hu h4 h5
        obtain ⟨q, hq⟩ := look_of_src _ _ _ h2
        rw [this] at hq; simp at hq
    · split at h2
      · rename_i e2
        obtain rfl := Option.some.inj h2
        rw [hx] at h3; obtain rfl := Option.some.inj h3
        have := hu h4 h5
        obtain ⟨q, hq⟩ := look_of_src _ _ _ h1
        rw [this] at hq; simp at hq
      · exact h.uniq n n' p z h1 h2 h3 h4 h5
  · simp only [look] at hp
    split at hp
    · rename_i e; subst e
      obtain rfl := Option.some.inj hp
      simp [src]
    · exact hsrc _ _ (h.back _ _ hp)
  · simp only [src] at hn
    split at hn
    · obtain rfl := Option.some.inj hn; exact ⟨x, hx⟩
    · exact h.live _ _ hn
/-- The value says the same under the new names. -/
theorem RT.same {K K2 : Ctx} (hw : K2.w = K.w) (hF : K2.F = K.F) (hb : K2.base = K.base) {x : T} {u : Value} (r : RT K x u) (hx : match x with | .c _ | .und | .junk | .tmp .. | .rp .. | .rb .. | .ms .. => True | _ => False) : RT K2 x u := by
  obtain ⟨w, F, base, σ⟩ := K
  obtain ⟨w2, F2, base2, σ2⟩ := K2
  simp only at hw hF hb
  subst hw; subst hF; subst hb
  cases x with
  | c y => simp only [RT] at r ⊢; exact r
  | und => simp only [RT] at r ⊢; exact r
  | junk => simp only [RT]
  | tmp => simp only [RT] at r ⊢; exact r
  | rp => simp only [RT] at r ⊢; exact r
  | ms => simp only [RT] at r ⊢; exact r
  | rb l off =>
    simp only [RT] at r ⊢
    obtain ⟨b, h1, h2, h3⟩ := r
    refine ⟨b, h1, h2, ?_⟩
    have : ∀ (o : Nat) (l : List U), RBs ⟨w2, F2, base2, σ⟩ b o l → RBs ⟨w2, F2, base2, σ2⟩ b o l := by
      intro o l
      induction l generalizing o with
      | nil => intro _; simp only [RBs]
      | cons y l ih =>
        intro h
        simp only [RBs] at h ⊢
        obtain ⟨⟨v, q1, q2⟩, q3⟩ := h
        exact ⟨⟨v, q1, by cases y <;> simp only [RU] at q2 ⊢ <;> exact q2⟩, ih (o + 1) q3⟩
    exact this 0 l h3
  | _ => exact hx.elim
def FocRes (K : Ctx) (S : St) (F F' : Foc) (x' : T) (u : Value) : Prop := FI K S F' ∧ FLe F F' ∧ RT (K.ren F') x' u
section
variable {m : Nat} {w0 : World} {F0 : Nat → Prop} {K : Ctx} {S S' : St} {a : Act}
theorem ren_src {F : Foc} {n o : Nat} (h : src F.ren n = some o) : (K.ren F).σ n = K.σ o := by
  show (src F.ren n).bind K.σ = _; rw [h]; rfl
theorem RT_sl {F : Foc} {n o off k sz : Nat} {cap : Option Nat} {u : Value} (h : src F.ren n = some o) (r : RT K (.sl o off k sz cap) u) : RT (K.ren F) (.sl n off k sz cap) u := by
  simp only [RT] at r ⊢
  rw [ren_src h]
  exact r
theorem focC_sound (oi : OInv K (obj S.o)) {dup : Bool} {F F' : Foc} {x x' : T} {u : Value} (hI : FI K S F) (r : RT K x u) (h : focC S dup F x = some (x', F')) : FocRes K S F F' x' u := by
  unfold focC at h
  split at h
  · rename_i o off n sz cap
    split at h
    · rename_i o' ho'
      simp only [Option.some.injEq, Prod.mk.injEq] at h
      obtain ⟨rfl, rfl⟩ := h
      have hl : look F.ren o = some o' := by cases dup <;> simp at ho'; exact ho'
      exact ⟨hI, .refl _, RT_sl (hI.back _ _ hl) r⟩
    · split at h
      · rename_i l g gen ho
        dsimp only at h
        have hro : ∀ (y : Ob) (g' gen' : Nat), y = .arr l g' gen' → ∀ K2 : Ctx, K2.w = K.w → K2.F = K.F → K2.base = K.base → KExt (K.ren F) K2 → ∀ s, K.σ o = some s → RO K2 s y := by
          intro y g' gen' e K2 hw hF hb _ s hs
          subst e
          have := oi.objs o _ s ho hs
          simp only [RO] at this ⊢
          rw [hw, hF, hb]
          exact this
        split at h
        · rename_i g' hg'
          simp only [Option.some.injEq, Prod.mk.injEq] at h
          obtain ⟨rfl, rfl⟩ := h
          obtain ⟨h1, h2⟩ := hI.push (y := .arr l g' (if tipOk g gen S.o = true then min gen 1 else 0)) (gs' := F.gs) ho (fun _ _ h => h) (fun g g' h => Nat.lt_succ_of_lt (hI.gs g g' h)) ⟨g', hg', rfl⟩ (fun hx => absurd rfl (hx _ _ _)) (hro _ _ _ rfl)
          exact ⟨h1, h2, RT_sl (by simp [src]) r⟩
        · rename_i hg'
          simp only [Option.some.injEq, Prod.mk.injEq] at h
          obtain ⟨rfl, rfl⟩ := h
          obtain ⟨h1, h2⟩ := hI.push (y := .arr l F.n (if tipOk g gen S.o = true then min gen 1 else 0)) (gs' := (g, F.n) :: F.gs) ho (fun a b h => by
              simp only [look]; split
              · rename_i e; subst e; rw [hg'] at h; simp at h
              · exact h) (fun a b h => by
              simp only [look] at h; split at h
              · obtain rfl := Option.some.inj h; exact Nat.lt_succ_self _
              · exact Nat.lt_succ_of_lt (hI.gs a b h)) ⟨F.n, by simp [look], rfl⟩ (fun hx => absurd rfl (hx _ _ _)) (hro _ _ _ rfl)
          exact ⟨h1, h2, RT_sl (by simp [src]) r⟩
      · rename_i l ho
        simp only [Option.some.injEq, Prod.mk.injEq] at h
        obtain ⟨rfl, rfl⟩ := h
        obtain ⟨h1, h2⟩ := hI.push (y := .fz l) (gs' := F.gs) ho (fun _ _ h => h) (fun g g' h => Nat.lt_succ_of_lt (hI.gs g g' h)) rfl (fun _ hx => absurd rfl (hx _)) (by
          intro K2 hw hF hb _ s hs
          have := oi.objs o _ s ho hs
          simp only [RO] at this ⊢
          rw [hw, hF]
          exact this)
        exact ⟨h1, h2, RT_sl (by simp [src]) r⟩
      · simp at h
  · rename_i o
    split at h
    · rename_i o' ho'
      simp only [Option.some.injEq, Prod.mk.injEq] at h
      obtain ⟨rfl, rfl⟩ := h
      refine ⟨hI, .refl _, ?_⟩
      simp only [RT] at r ⊢
      rw [ren_src (hI.back _ _ ho')]
      exact r
    · rename_i ho'
      split at h
      · rename_i es c ho
        simp only [Option.some.injEq, Prod.mk.injEq] at h
        obtain ⟨rfl, rfl⟩ := h
        obtain ⟨h1, h2⟩ := hI.push (y := .mp es c) (gs' := F.gs) ho (fun _ _ h => h) (fun g g' h => Nat.lt_succ_of_lt (hI.gs g g' h)) rfl (fun _ _ => ho') (by
          intro K2 hw hF hb _ s hs
          have := oi.objs o _ s ho hs
          simp only [RO] at this ⊢
          rw [hw, hF, hb]
          exact this)
        refine ⟨h1, h2, ?_⟩
        simp only [RT] at r ⊢
        rw [ren_src (K := K) (o := o) (by simp [src])]
        exact r
      · simp at h
  · simp at h
  · simp at h
  · simp at h
  · simp at h
  · rename_i n1 n2 n3 n4 n5 n6
    simp only [Option.some.injEq, Prod.mk.injEq] at h
    obtain ⟨rfl, rfl⟩ := h
    refine ⟨hI, .refl _, RT.same (K := K) (K2 := K.ren F) rfl rfl rfl r ?_⟩
    cases x <;> first | trivial | exact (n1 _ _ _ _ _ rfl).elim | exact (n2 _ rfl).elim | exact (n3 _ _ rfl).elim | exact (n4 _ rfl).elim | exact (n5 _ rfl).elim | exact (n6 _ _ rfl).elim
theorem focC_look {dup : Bool} {F F' : Foc} {x x' : T} {o : Nat} {l : List T} (ho : obj S.o o = some (.box l)) (hl : look F.ren o = none) (h : focC S dup F x = some (x', F')) : look F'.ren o = none := by
  have push : ∀ (o2 n : Nat) (y : Ob), obj S.o o2 = some y → (∀ l, y ≠ .box l) → look ((o2, n) :: F.ren) o = none := by
    intro o2 n y h2 hy
    simp only [look]
    split
    · rename_i e; subst e; rw [ho] at h2; obtain rfl := Option.some.inj h2; exact absurd rfl (hy l)
    · exact hl
  unfold focC at h
  split at h
  · split at h
    · simp only [Option.some.injEq, Prod.mk.injEq] at h; obtain ⟨_, rfl⟩ := h; exact hl
    · split at h
      · rename_i h2
        dsimp only at h
        split at h
        · simp only [Option.some.injEq, Prod.mk.injEq] at h; obtain ⟨_, rfl⟩ := h; exact push _ _ _ h2 (by simp)
        · simp only [Option.some.injEq, Prod.mk.injEq] at h; obtain ⟨_, rfl⟩ := h; exact push _ _ _ h2 (by simp)
      · rename_i h2
        simp only [Option.some.injEq, Prod.mk.injEq] at h; obtain ⟨_, rfl⟩ := h; exact push _ _ _ h2 (by simp)
      · simp at h
  · split at h
    · simp only [Option.some.injEq, Prod.mk.injEq] at h; obtain ⟨_, rfl⟩ := h; exact hl
    · split at h
      · rename_i h2
        simp only [Option.some.injEq, Prod.mk.injEq] at h; obtain ⟨_, rfl⟩ := h; exact push _ _ _ h2 (by simp)
      · simp at h
  all_goals first
    | (simp at h; done)
    | (simp only [Option.some.injEq, Prod.mk.injEq] at h; obtain ⟨_, rfl⟩ := h; exact hl)
theorem focL_look {dup : Bool} {o : Nat} {l0 : List T} (ho : obj S.o o = some (.box l0)) : ∀ {l l' : List T} {F F' : Foc}, look F.ren o = none → focL S dup l F = some (l', F') → look F'.ren o = none
  | [], l', F, F', hl, h => by
    simp only [focL, Option.some.injEq, Prod.mk.injEq] at h
    obtain ⟨_, rfl⟩ := h; exact hl
  | x :: l, l', F, F', hl, h => by
    simp only [focL] at h
    obtain ⟨⟨x1, F1⟩, h1, h⟩ := Option.bind_eq_some_iff.1 h
    obtain ⟨⟨l1, F2⟩, h2, h3⟩ := Option.map_eq_some_iff.1 h
    simp only [Prod.mk.injEq] at h3
    obtain ⟨rfl, rfl⟩ := h3
    exact focL_look ho (focC_look ho hl h1) h2
theorem focL_sound (oi : OInv K (obj S.o)) {dup : Bool} : ∀ {l l' : List T} {F F' : Foc} {us : List Value}, FI K S F → RTs K l us → focL S dup l F = some (l', F') → FI K S F' ∧ FLe F F' ∧ RTs (K.ren F') l' us
  | [], l', F, F', us, hI, r, h => by
    simp only [focL, Option.some.injEq, Prod.mk.injEq] at h
    obtain ⟨rfl, rfl⟩ := h
    exact ⟨hI, .refl _, by simp only [RTs] at r ⊢; exact r⟩
  | x :: l, l', F, F', us, hI, r, h => by
    simp only [focL] at h
    obtain ⟨⟨x1, F1⟩, h1, h⟩ := Option.bind_eq_some_iff.1 h
    obtain ⟨⟨l1, F2⟩, h2, h3⟩ := Option.map_eq_some_iff.1 h
    simp only [Prod.mk.injEq] at h3
    obtain ⟨rfl, rfl⟩ := h3
    simp only [RTs] at r
    obtain ⟨u, vs, rfl, r1, r2⟩ := r
    obtain ⟨a1, a2, a3⟩ := focC_sound oi hI r1 h1
    obtain ⟨b1, b2, b3⟩ := focL_sound oi a1 r2 h2
    refine ⟨b1, a2.trans b2, ?_⟩
    simp only [RTs]
    exact ⟨u, vs, rfl, RT.mono b2.ext _ _ a3, b3⟩
theorem focP_sound (oi : OInv K (obj S.o)) {dup : Bool} {F F' : Foc} {x x' : T} {u : Value} (hI : FI K S F) (r : RT K x u) (h : focP S dup F x = some (x', F')) : FocRes K S F F' x' u := by
  unfold focP at h
  split at h
  · rename_i o off
    split at h
    · rename_i o' ho'
      simp only [Option.some.injEq, Prod.mk.injEq] at h
      obtain ⟨rfl, rfl⟩ := h
      refine ⟨hI, .refl _, ?_⟩
      simp only [RT] at r ⊢
      rw [ren_src (hI.back _ _ ho')]
      exact r
    · rename_i hlook
      split at h
      · rename_i l ho
        obtain ⟨⟨l1, F1⟩, h1, h2⟩ := Option.map_eq_some_iff.1 h
        simp only [Prod.mk.injEq] at h2
        obtain ⟨rfl, rfl⟩ := h2
        simp only [RT] at r
        obtain ⟨b, sh, hs, e⟩ := r
        have hro := oi.objs o _ _ ho hs
        simp only [RO] at hro
        obtain ⟨b', cs, et, q1, q2, q3, q4, q5⟩ := hro
        obtain ⟨a1, a2, a3⟩ := focL_sound oi hI q5 h1
        obtain ⟨c1, c2⟩ := a1.push (o := o) (y := .box l1) (gs' := F1.gs) ho (fun _ _ h => h) (fun g g' h => Nat.lt_succ_of_lt (a1.gs g g' h)) ⟨l1, rfl⟩ (fun _ _ => by
            -- nothing in a box is the box itself
            exact focL_look ho hlook h1) (by
          intro K2 hw hF hb hext s hs'
          rw [hs] at hs'; obtain rfl := Option.some.inj hs'
          simp only [RO]
          refine ⟨b', cs, et, q1, by rw [hF]; exact q2, by rw [hb]; exact q3, by rw [hw]; exact q4, RTs.mono hext _ _ a3⟩)
        refine ⟨c1, a2.trans c2, ?_⟩
        simp only [RT]
        rw [ren_src (K := K) (o := o) (by simp [src])]
        exact ⟨b, sh, hs, e⟩
      · simp at h
  · exact focC_sound oi hI r h
theorem focPs_sound (oi : OInv K (obj S.o)) {dup : Bool} : ∀ {l l' : List T} {F F' : Foc} {us : List Value}, FI K S F → RTs K l us → focPs S dup l F = some (l', F') → FI K S F' ∧ FLe F F' ∧ RTs (K.ren F') l' us
  | [], l', F, F', us, hI, r, h => by
    simp only [focPs, Option.some.injEq, Prod.mk.injEq] at h
    obtain ⟨rfl, rfl⟩ := h
    exact ⟨hI, .refl _, by simp only [RTs] at r ⊢; exact r⟩
  | x :: l, l', F, F', us, hI, r, h => by
    simp only [focPs] at h
    obtain ⟨⟨x1, F1⟩, h1, h⟩ := Option.bind_eq_some_iff.1 h
    obtain ⟨⟨l1, F2⟩, h2, h3⟩ := Option.map_eq_some_iff.1 h
    simp only [Prod.mk.injEq] at h3
    obtain ⟨rfl, rfl⟩ := h3
    simp only [RTs] at r
    obtain ⟨u, vs, rfl, r1, r2⟩ := r
    obtain ⟨a1, a2, a3⟩ := focP_sound oi hI r1 h1
    obtain ⟨b1, b2, b3⟩ := focPs_sound oi a1 r2 h2
    refine ⟨b1, a2.trans b2, ?_⟩
    simp only [RTs]
    exact ⟨u, vs, rfl, RT.mono b2.ext _ _ a3, b3⟩
theorem foc1_sound (oi : OInv K (obj S.o)) {dup : Bool} {F F' : Foc} {x x' : T} {u : Value} (hI : FI K S F) (r : RT K x u) (h : foc1 S dup F x = some (x', F')) : FocRes K S F F' x' u := by
  unfold foc1 at h
  split at h
  · obtain ⟨⟨l1, F1⟩, h1, h2⟩ := Option.map_eq_some_iff.1 h
    simp only [Prod.mk.injEq] at h2
    obtain ⟨rfl, rfl⟩ := h2
    simp only [RT] at r
    obtain ⟨cs, rfl, r⟩ := r
    obtain ⟨a1, a2, a3⟩ := focL_sound oi hI r h1
    exact ⟨a1, a2, by simp only [RT]; exact ⟨cs, rfl, a3⟩⟩
  · obtain ⟨⟨l1, F1⟩, h1, h2⟩ := Option.map_eq_some_iff.1 h
    simp only [Prod.mk.injEq] at h2
    obtain ⟨rfl, rfl⟩ := h2
    simp only [RT] at r
    obtain ⟨cs, rfl, r⟩ := r
    obtain ⟨a1, a2, a3⟩ := focL_sound oi hI r h1
    exact ⟨a1, a2, by simp only [RT]; exact ⟨cs, rfl, a3⟩⟩
  · obtain ⟨⟨l1, F1⟩, h1, h2⟩ := Option.map_eq_some_iff.1 h
    simp only [Prod.mk.injEq] at h2
    obtain ⟨rfl, rfl⟩ := h2
    simp only [RT] at r
    obtain ⟨cs, rfl, r⟩ := r
    obtain ⟨a1, a2, a3⟩ := focPs_sound oi hI r h1
    exact ⟨a1, a2, by simp only [RT]; exact ⟨cs, rfl, a3⟩⟩
  · exact focP_sound oi hI r h
theorem focK_sound (h : Inv m w0 F0 K S a) : ∀ {k : Keep} {F F' : Foc} {ts : List (Nat × T)}, FI K S F → focK S k F = some (ts, F') → FI K S F' ∧ FLe F F' ∧ ∀ t, RT (K.ren F') (get ts t) (a.tmps.getD t undef)
  | [], F, F', ts, hI, hk => by
    simp only [focK, Option.some.injEq, Prod.mk.injEq] at hk
    obtain ⟨rfl, rfl⟩ := hk
    exact ⟨hI, .refl _, fun t => by simp only [get, RT]⟩
  | (t0, dup) :: k, F, F', ts, hI, hk => by
    simp only [focK] at hk
    obtain ⟨⟨x1, F1⟩, h1, hk⟩ := Option.bind_eq_some_iff.1 hk
    obtain ⟨⟨l1, F2⟩, h2, h3⟩ := Option.map_eq_some_iff.1 hk
    simp only [Prod.mk.injEq] at h3
    obtain ⟨rfl, rfl⟩ := h3
    obtain ⟨a1, a2, a3⟩ := foc1_sound h.oi hI (h.tm t0) h1
    obtain ⟨b1, b2, b3⟩ := focK_sound h a1 h2
    refine ⟨b1, a2.trans b2, fun t => ?_⟩
    simp only [get]
    split
    · rename_i e; subst e; exact RT.mono b2.ext _ _ a3
    · exact b3 t
theorem focus_sound (h : Inv m w0 F0 K S a) {k : Keep} (hf : focus k S = some S') : ∃ K', K'.w = K.w ∧ Inv m w0 F0 K' S' a := by
  unfold focus at hf
  obtain ⟨⟨ts, F⟩, h1, rfl⟩ := Option.map_eq_some_iff.1 hf
  have h0 : FI K S ⟨[], [], [], 0⟩ := ⟨fun n o h => by simp [src] at h, fun n y h => by simp [obj] at h, fun n y s h => by simp [obj] at h, fun g g' h => by simp [look] at h, fun n n' o x h => by simp [src] at h, fun o n h => by simp [look] at h, fun n o h => by simp [src] at h⟩
  obtain ⟨hI, _, ht⟩ := focK_sound h h0 h1
  refine ⟨K.ren F, rfl, ?_⟩
  exact {
    good := ⟨h.good.F, h.good.base⟩
    base := h.base
    below := h.below
    Fin := h.Fin
    Fout := h.Fout
    size := h.size
    defers := h.defers
    tm := ht
    oi := {
      objs := hI.objs
      dom := fun n y hy => by
        obtain ⟨o, x, h2, h3, _⟩ := hI.ob n y hy
        rw [ren_src h2]; exact h.oi.dom o x h3
      alias := fun n n' y y' b sh sh' hy hy' hs hs' => by
        obtain ⟨o, x, h2, h3, h4⟩ := hI.ob n y hy
        obtain ⟨o', x', h5, h6, h7⟩ := hI.ob n' y' hy'
        rw [ren_src h2] at hs
        rw [ren_src h5] at hs'
        have hal : Alias x x' sh sh' ∨ n = n' ∨ (o = o' ∧ ∃ l g e, x = .arr l g e) ∨ (o = o' ∧ ∃ l, x = .fz l) := by
          rcases h.oi.alias o o' x x' b sh sh' h3 h6 hs hs' with rfl | hal
          · by_cases ha : ∃ l g e, x = .arr l g e
            · exact .inr (.inr (.inl ⟨rfl, ha⟩))
            · by_cases hb : ∃ l, x = .fz l
              · exact .inr (.inr (.inr ⟨rfl, hb⟩))
              · exact .inr (.inl (hI.uniq n n' o x h2 h5 h3 (fun l g e h => ha ⟨l, g, e, h⟩) (fun l h => hb ⟨l, h⟩)))
          · exact .inl hal
        rcases hal with hal | rfl | ⟨rfl, l, g, e, rfl⟩ | ⟨rfl, l, rfl⟩
        · right
          cases x with
          | arr l g e =>
            cases x' with
            | arr l' g' e' =>
              simp only [FocOb] at h4 h7
              obtain ⟨g1, q1, rfl⟩ := h4
              obtain ⟨g2, q2, rfl⟩ := h7
              simp only [Alias] at hal ⊢
              obtain ⟨rfl, rfl, c1, c2⟩ := hal
              rw [q1] at q2; obtain rfl := Option.some.inj q2
              refine ⟨rfl, rfl, fun _ hpos => ?_, fun _ hpos => ?_⟩
              · split at hpos
                · rename_i ht; exact c1 (tipOk_get ht h3 rfl) (by omega)
                · omega
              · split at hpos
                · rename_i ht; exact c2 (tipOk_get ht h6 rfl) (by omega)
                · omega
            | dead => simp [FocOb] at h7
            | _ => simp [Alias] at hal
          | fz l =>
            cases x' with
            | fz l' => simp only [FocOb] at h4 h7; subst h4; subst h7; simp [Alias]
            | dead => simp [FocOb] at h7
            | _ => simp [Alias] at hal
          | dead => simp [FocOb] at h4
          | box l => cases x' <;> first | (simp [Alias] at hal; done) | (simp [FocOb] at h7; done)
          | mp es c => cases x' <;> first | (simp [Alias] at hal; done) | (simp [FocOb] at h7; done)
        · exact .inl rfl
        · right
          rw [h3] at h6; obtain rfl := Option.some.inj h6
          rw [hs] at hs'
          simp at hs'
          simp only [FocOb] at h4 h7
          obtain ⟨g1, q1, rfl⟩ := h4
          obtain ⟨g2, q2, rfl⟩ := h7
          rw [q1] at q2; obtain rfl := Option.some.inj q2
          simp only [Alias]
          exact ⟨trivial, hs', fun _ _ => Nat.le_refl _, fun _ _ => Nat.le_refl _⟩
        · right
          rw [h3] at h6; obtain rfl := Option.some.inj h6
          simp only [FocOb] at h4 h7
          subst h4; subst h7
          simp [Alias] }
    fresh := fun n hn => by
      show (src F.ren n).bind K.σ = none
      cases hs : src F.ren n with
      | none => rfl
      | some o => have := hI.lt n o hs; have hn' : F.n ≤ n := hn; omega
    grp := fun n l g e hy => by
      obtain ⟨o, x, h2, h3, h4⟩ := hI.ob n _ hy
      cases x with
      | arr l0 g0 e0 =>
        simp only [FocOb] at h4
        obtain ⟨g', q1, q2⟩ := h4
        simp at q2
        rw [q2.2.1]; exact hI.gs _ _ q1
      | _ => simp [FocOb] at h4 }
theorem KExt.more {K : Ctx} {n : Nat} (h : K.σ n = none) : KExt K { K with σ := fun o => if o = n then some none else K.σ o } := ⟨rfl, fun _ h => h, fun o s hs => by
    show (if o = n then _ else _) = _
    rw [if_neg (by rintro rfl; rw [h] at hs; simp at hs)]; exact hs, fun _ _ => rfl, fun _ cs e fr h => ⟨cs, e, fr, h, rfl⟩⟩
theorem RTs_set {K : Ctx} {n : Nat} {y : T} : ∀ {l : List T} {us : List Value} {i : Nat}, RTs K l us → (∀ x u, l[i]? = some x → us[i]? = some u → RT K y u) → RTs K (l.set i y) us
  | [], us, i, h, _ => h
  | x :: l, us, 0, h, hy => by
    simp only [RTs, List.set_cons_zero] at h ⊢
    obtain ⟨u, vs, rfl, h1, h2⟩ := h
    exact ⟨u, vs, rfl, hy x u rfl rfl, h2⟩
  | x :: l, us, i + 1, h, hy => by
    simp only [RTs, List.set_cons_succ] at h ⊢
    obtain ⟨u, vs, rfl, h1, h2⟩ := h
    exact ⟨u, vs, rfl, h1, RTs_set (n := n) h2 fun x u hx hu => hy x u (by simpa using hx) (by simpa using hu)⟩
theorem nil_own {K : Ctx} {n sz : Nat} {u : Value} (h : RT K (.c (.s (some 0) 0 [])) u) (hn : K.σ n = none) : RT { K with σ := fun o => if o = n then some none else K.σ o } (.sl n 0 0 sz none) u := by
  simp only [RT, RC] at h
  obtain ⟨A, c, rfl, hc, hex, _⟩ := h
  have : c = 0 := hex 0 rfl
  subst this
  simp only [RT]
  exact ⟨A, 0, rfl, Nat.le_refl _, fun k hk => by simp at hk, .inl ⟨rfl, none, by simp⟩⟩
theorem Inv.more (h : Inv m w0 F0 K S a) : Inv m w0 F0 { K with σ := fun o => if o = S.n then some none else K.σ o } ⟨S.t, (S.n, .arr [] S.n 1) :: S.o, S.n + 1⟩ a := by
  have hn := h.fresh S.n (Nat.le_refl _)
  have hext := KExt.more hn
  have hob : ∀ o x, obj S.o o = some x → S.n ≠ o := fun o x ho e => by subst e; exact h.oi.dom _ _ ho hn
  exact {
    good := ⟨h.good.F, h.good.base⟩
    base := h.base
    below := h.below
    Fin := h.Fin
    Fout := h.Fout
    size := h.size
    defers := h.defers
    tm := fun t => RT.mono hext _ _ (h.tm t)
    oi := {
      objs := fun o x s ho hs => by
        simp only [obj] at ho
        by_cases e : S.n = o
        · rw [if_pos e] at ho
          obtain rfl := Option.some.inj ho
          simp only [if_pos e.symm, Option.some.injEq] at hs
          subst hs
          simp only [RO]; exact .inl ⟨trivial, trivial⟩
        · rw [if_neg e] at ho
          simp only [if_neg (fun q => e (Eq.symm q))] at hs
          exact RO.mono hext (fun _ _ _ h => h) (fun _ _ _ => rfl) (h.oi.objs o x s ho hs)
      dom := fun o x ho => by
        simp only [obj] at ho
        by_cases e : S.n = o
        · simp [e]
        · rw [if_neg e] at ho
          simp only [if_neg (fun q => e (Eq.symm q))]
          exact h.oi.dom o x ho
      alias := fun o o' x x' b sh sh' ho ho' hs hs' => by
        simp only [obj] at ho ho'
        by_cases e : o = S.n
        · simp [e] at hs
        · by_cases e' : o' = S.n
          · simp [e'] at hs'
          · rw [if_neg (fun q => e (Eq.symm q))] at ho
            rw [if_neg (fun q => e' (Eq.symm q))] at ho'
            simp only [if_neg e] at hs
            simp only [if_neg e'] at hs'
            exact h.oi.alias o o' x x' b sh sh' ho ho' hs hs' }
    fresh := fun o ho => by
      have ho' : S.n + 1 ≤ o := ho
      show (if o = S.n then _ else _) = _
      rw [if_neg (by omega)]; exact h.fresh o (by omega)
    grp := fun o l g e ho => by
      simp only [obj] at ho
      show g < S.n + 1
      by_cases e : S.n = o
      · rw [if_pos e] at ho
        simp at ho; omega
      · rw [if_neg e] at ho
        have := h.grp o l g _ ho; omega }
theorem own1_sound (t : Nat) (i : Option Nat) (sz : Nat) (h : Inv m w0 F0 K S a) : ∃ K', K'.w = K.w ∧ Inv m w0 F0 K' (own1 t i sz S) a := by
  have hn := h.fresh S.n (Nat.le_refl _)
  have hm := h.more
  unfold own1
  split
  · rename_i hg
    refine ⟨{ K with σ := fun o => if o = S.n then some none else K.σ o }, rfl, { hm with tm := fun t' => ?_ }⟩
    simp only [get]
    split
    · rename_i e; subst e
      have := h.tm t
      rw [hg] at this
      exact nil_own this hn
    · exact hm.tm t'
  · rename_i ii o off hg
    split
    · rename_i l ho
      split
      · rename_i hi
        refine ⟨{ K with σ := fun o => if o = S.n then some none else K.σ o }, rfl, ?_⟩
        have hne : S.n ≠ o := fun e => by subst e; exact h.oi.dom _ _ ho hn
        have hobj : ∀ p y, obj ((S.n, .arr [] S.n 1) :: setO o (.box (l.set ii (.sl S.n 0 0 sz none))) S.o) p = some y → (p = o ∧ y = .box (l.set ii (.sl S.n 0 0 sz none))) ∨ (p ≠ o ∧ obj ((S.n, .arr [] S.n 1) :: S.o) p = some y) := fun p y hp => by
          simp only [obj] at hp ⊢
          by_cases e : S.n = p
          · rw [if_pos e] at hp ⊢; exact .inr ⟨by omega, hp⟩
          · rw [if_neg e] at hp ⊢
            rw [obj_setO] at hp
            by_cases e' : p = o
            · subst e'
              rw [if_pos rfl, ho] at hp
              exact .inl ⟨rfl, by simpa using hp.symm⟩
            · rw [if_neg e'] at hp
              exact .inr ⟨e', hp⟩
        have hbox : obj ((S.n, Ob.arr [] S.n 1) :: S.o) o = some (.box l) := by simp only [obj, if_neg hne]; exact ho
        exact { hm with
          oi := {
            objs := fun p y s hp hs => by
              rcases hobj p y hp with ⟨rfl, rfl⟩ | ⟨_, h2⟩
              · have := hm.oi.objs _ _ s hbox hs
                simp only [RO] at this ⊢
                obtain ⟨b, cs, e, q1, q2, q3, q4, q5⟩ := this
                refine ⟨b, cs, e, q1, q2, q3, q4, RTs_set (n := 0) q5 fun x u hx hu => ?_⟩
                rw [hi] at hx
                obtain rfl := Option.some.inj hx
                obtain ⟨s0, hs0⟩ : ∃ s0, K.σ p = some s0 := by
                  cases hq : K.σ p with
                  | none => exact absurd hq (h.oi.dom _ _ ho)
                  | some s0 => exact ⟨s0, rfl⟩
                have := h.oi.objs _ _ _ ho hs0
                simp only [RO] at this
                obtain ⟨b', cs', e', q1', q2', q3', q4', q5'⟩ := this
                have hs' : K.σ p = some s := by simpa only [if_neg (fun q => hne (Eq.symm q))] using hs
                rw [hs0] at hs'; obtain rfl := Option.some.inj hs'
                rw [q1] at q1'; obtain ⟨rfl, _⟩ := Prod.mk.inj (Option.some.inj q1')
                have q4'' : K.w.heap[b]? = some (.cells cs e (0, 0)) := q4
                rw [q4''] at q4'; simp at q4'; obtain ⟨rfl, rfl⟩ := q4'
                obtain ⟨u', hu', r⟩ := RTs_get _ _ _ _ q5' hi
                rw [hu] at hu'; obtain rfl := Option.some.inj hu'
                exact nil_own r hn
              · exact hm.oi.objs p y s h2 hs
            dom := fun p y hp => by
              rcases hobj p y hp with ⟨rfl, rfl⟩ | ⟨_, h2⟩
              · exact hm.oi.dom _ _ hbox
              · exact hm.oi.dom p y h2
            alias := fun p p' y y' b sh sh' hp hp' hs hs' => by
              have un : ∀ p y, obj ((S.n, .arr [] S.n 1) :: setO o (.box (l.set ii (.sl S.n 0 0 sz none))) S.o) p = some y → ∃ z, obj ((S.n, .arr [] S.n 1) :: S.o) p = some z ∧ ∀ q sh sh', (Alias z q sh sh' → Alias y q sh sh') ∧ (Alias q z sh sh' → Alias q y sh sh') := fun p y hp => by
                rcases hobj p y hp with ⟨rfl, rfl⟩ | ⟨_, h2⟩
                · exact ⟨_, hbox, fun q sh sh' => ⟨fun h => by cases q <;> simp [Alias] at h ⊢, fun h => by cases q <;> simp [Alias] at h ⊢⟩⟩
                · exact ⟨y, h2, fun q sh sh' => ⟨id, id⟩⟩
              obtain ⟨z, h1, h2⟩ := un p y hp
              obtain ⟨z', h3, h4⟩ := un p' y' hp'
              exact (hm.oi.alias p p' z z' b sh sh' h1 h3 hs hs').imp id fun q => (h4 _ _ _).2 ((h2 _ _ _).1 q) }
          grp := fun p l' g e hp => by
            rcases hobj p _ hp with ⟨_, h2⟩ | ⟨_, h2⟩
            · simp at h2
            · exact hm.grp p l' g e h2 }
      · exact ⟨K, rfl, h⟩
    · exact ⟨K, rfl, h⟩
  · exact ⟨K, rfl, h⟩
theorem prep_sound (l : List (Nat × Option Nat × Nat)) : ∀ {K : Ctx} {S : St}, Inv m w0 F0 K S a → ∃ K', K'.w = K.w ∧ Inv m w0 F0 K' (prep l S) a := by
  induction l with
  | nil => intro K S h; exact ⟨K, rfl, h⟩
  | cons x l ih =>
    intro K S h
    obtain ⟨t, i, sz⟩ := x
    obtain ⟨K1, h1, h2⟩ := own1_sound t i sz h
    obtain ⟨K2, h3, h4⟩ := ih h2
    exact ⟨K2, h3.trans h1, h4⟩
end
end Go.Proofs.Ytnbijiopcgfmfaa.Tev
