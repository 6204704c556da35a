/- Part 5: TevFoc, TevFun, TevLim, TevOpen. -/
import Derived.Test.YtnbijiopcgfmfaaGreatP04
import Derived.SizedLaws
import Derived.ChangeSlices
import Derived.ChangeArms
import Derived.OpenShut
import Derived.WideShapes
/- The store laid anew. -/
namespace Go.Proofs.YtnbijiopcgfmfaaGreat.Tev
open Go Go.RowKit
set_option linter.unusedSectionVars false
set_option linter.unusedVariables false
set_option linter.unusedSimpArgs false
/-- The elder name behind a new one. -/
def src : List (Nat × Nat) → Nat → Option Nat
  | [], _ => none
  | (o, n) :: r, i => if n = i then some o else src r i
def Ctx.ren (K : Ctx) (F : Foc) : Ctx := { K with σ := fun n => (src F.ren n).bind K.σ }
/-- An object and what is made of it. -/
def FocOb (S : St) (F : Foc) : Ob → Ob → Prop
  | .arr l g gen, y => ∃ g', look F.gs g = some g' ∧ y = .arr l g' (if tipOk g gen S.o = true then min gen 1 else 0)
  | .fz l, y => y = .fz l
  | .mp es c, y => y = .mp es c
  | .box _, y => ∃ l, y = .box l
  | .dead, _ => False
structure FI (K : Ctx) (S : St) (F : Foc) : Prop where
  lt : ∀ n o, src F.ren n = some o → n < F.n
  ob : ∀ n y, obj F.o n = some y → ∃ o x, src F.ren n = some o ∧ obj S.o o = some x ∧ FocOb S F x y
  objs : ∀ n y s, obj F.o n = some y → (K.ren F).σ n = some s → RO (K.ren F) s y
  gs : ∀ g g', look F.gs g = some g' → g' < F.n
  uniq : ∀ n n' o x, src F.ren n = some o → src F.ren n' = some o → obj S.o o = some x → (∀ l g e, x ≠ .arr l g e) → (∀ l, x ≠ .fz l) → n = n'
  back : ∀ o n, look F.ren o = some n → src F.ren n = some o
  live : ∀ n o, src F.ren n = some o → ∃ x, obj S.o o = some x

structure FLe (F F' : Foc) : Prop where
  src : ∀ n o, src F.ren n = some o → Tev.src F'.ren n = some o
  gs : ∀ g g', look F.gs g = some g' → look F'.gs g = some g'
  n : F.n ≤ F'.n
theorem FLe.refl (F : Foc) : FLe F F := ⟨fun _ _ h => h, fun _ _ h => h, Nat.le_refl _⟩
theorem FLe.trans {F F' F'' : Foc} (h : FLe F F') (g : FLe F' F'') : FLe F F'' := ⟨fun n o q => g.src n o (h.src n o q), fun a b q => g.gs a b (h.gs a b q), Nat.le_trans h.n g.n⟩
theorem FLe.ext {K : Ctx} {F F' : Foc} (h : FLe F F') : KExt (K.ren F) (K.ren F') := ⟨rfl, fun _ h => h, fun o s hs => by
    have hs' : (Tev.src F.ren o).bind K.σ = some s := hs
    obtain ⟨p, h1, h2⟩ := Option.bind_eq_some_iff.1 hs'
    show (Tev.src F'.ren o).bind K.σ = some s
    rw [h.src o p h1]; exact h2, fun _ _ => rfl, fun _ cs e fr h => ⟨cs, e, fr, h, rfl⟩⟩
theorem FocOb.mono {S : St} {F F' : Foc} (h : FLe F F') {x y : Ob} (q : FocOb S F x y) : FocOb S F' x y := by
  cases x <;> simp only [FocOb] at q ⊢ <;> first | exact q | (obtain ⟨g', h1, h2⟩ := q; exact ⟨g', h.gs _ _ h1, h2⟩)
theorem obj_snoc (l : List (Nat × Ob)) (n : Nat) (y : Ob) (hn : ∀ z, obj l n = some z → False) (i : Nat) : obj (l ++ [(n, y)]) i = if n = i then some y else obj l i := by
  induction l with
  | nil => simp [obj]
  | cons p l ih =>
    obtain ⟨k, z⟩ := p
    simp only [List.cons_append, obj]
    by_cases hk : k = i
    · rw [if_pos hk, if_pos hk]
      split
      · rename_i e; subst e; subst hk; exact (hn z (by simp [obj])).elim
      · rfl
    · rw [if_neg hk, if_neg hk]
      refine ih fun z' hz' => ?_
      by_cases hkn : k = n
      · exact hn z (by simp [obj, hkn])
      · exact hn z' (by simp [obj, hkn, hz'])
theorem look_of_src : ∀ (l : List (Nat × Nat)) (n o : Nat), src l n = some o → ∃ q, look l o = some q
  | [], n, o, h => by simp [src] at h
  | (k, i) :: l, n, o, h => by
    simp only [src] at h
    simp only [look]
    split at h
    · obtain rfl := Option.some.inj h; exact ⟨i, by simp⟩
    · by_cases hk : k = o
      · exact ⟨i, by simp [hk]⟩
      · obtain ⟨q, hq⟩ := look_of_src l n o h
        exact ⟨q, by rw [if_neg hk]; exact hq⟩
/-- One more object. -/
theorem FI.push {K : Ctx} {S : St} {F : Foc} (h : FI K S F) {o : Nat} {x y : Ob} {gs' : List (Nat × Nat)} (hx : obj S.o o = some x) (hgs : ∀ g g', look F.gs g = some g' → look gs' g = some g') (hgs' : ∀ g g', look gs' g = some g' → g' < F.n + 1)
    (hfo : FocOb S { F with gs := gs' } x y) (hu : (∀ l g e, x ≠ .arr l g e) → (∀ l, x ≠ .fz l) → look F.ren o = none)
    (hro : ∀ K2 : Ctx, K2.w = K.w → K2.F = K.F → K2.base = K.base → KExt (K.ren F) K2 → ∀ s, K.σ o = some s → RO K2 s y) :
    FI K S { ren := (o, F.n) :: F.ren, gs := gs', o := F.o ++ [(F.n, y)], n := F.n + 1 } ∧ FLe F { ren := (o, F.n) :: F.ren, gs := gs', o := F.o ++ [(F.n, y)], n := F.n + 1 } := by
  have hfree : ∀ z, obj F.o F.n = some z → False := fun z hz => by
    obtain ⟨p, _, h1, _⟩ := h.ob _ _ hz
    have := h.lt _ _ h1; omega
  have hsrc : ∀ n p, src F.ren n = some p → src ((o, F.n) :: F.ren) n = some p := fun n p hn => by
    have := h.lt _ _ hn
    simp only [src]; rw [if_neg (by omega)]; exact hn
  have hle : FLe F { ren := (o, F.n) :: F.ren, gs := gs', o := F.o ++ [(F.n, y)], n := F.n + 1 } := ⟨hsrc, hgs, Nat.le_succ _⟩
  refine ⟨⟨fun n p hn => ?_, fun n z hz => ?_, fun n z s hz hs => ?_, hgs', fun n n' p z h1 h2 h3 h4 h5 => ?_, fun p n hp => ?_, fun n p hn => ?_⟩, hle⟩
  · simp only [src] at hn
    split at hn
    · show n < F.n + 1; omega
    · have := h.lt _ _ hn; show n < F.n + 1; omega
  · rw [obj_snoc _ _ _ hfree] at hz
    split at hz
    · rename_i e; subst e
      obtain rfl := Option.some.inj hz
      exact ⟨o, x, by simp [src], hx, by cases x <;> exact hfo⟩
    · obtain ⟨p, x', h1, h2, h3⟩ := h.ob _ _ hz
      exact ⟨p, x', hsrc _ _ h1, h2, h3.mono hle⟩
  · rw [obj_snoc _ _ _ hfree] at hz
    split at hz
    · rename_i e; subst e
      obtain rfl := Option.some.inj hz
      refine hro (K.ren { ren := (o, F.n) :: F.ren, gs := gs', o := F.o ++ [(F.n, y)], n := F.n + 1 }) rfl rfl rfl hle.ext s ?_
      have hs' : (src ((o, F.n) :: F.ren) F.n).bind K.σ = some s := hs
      simpa [src] using hs'
    · have hne : F.n ≠ n := by assumption
      have hs' : (K.ren F).σ n = some s := by
        have h0 : (src ((o, F.n) :: F.ren) n).bind K.σ = some s := hs
        simp only [src, if_neg hne] at h0
        exact h0
      exact RO.mono hle.ext (fun _ _ _ h => h) (fun _ _ _ => rfl) (h.objs n z s hz hs')
  · simp only [src] at h1 h2
    split at h1
    · rename_i e1
      obtain rfl := Option.some.inj h1
      split at h2
      · omega
      · rw [hx] at h3; obtain rfl := Option.some.inj h3
        have := hu h4 h5
        obtain ⟨q, hq⟩ := look_of_src _ _ _ h2
        rw [this] at hq; simp at hq
    · split at h2
      · rename_i e2
        obtain rfl := Option.some.inj h2
        rw [hx] at h3; obtain rfl := Option.some.inj h3
        have := hu h4 h5
        obtain ⟨q, hq⟩ := look_of_src _ _ _ h1
        rw [this] at hq; simp at hq
      · exact h.uniq n n' p z h1 h2 h3 h4 h5
  · simp only [look] at hp
    split at hp
    · rename_i e; subst e
      obtain rfl := Option.some.inj hp
      simp [src]
    · exact hsrc _ _ (h.back _ _ hp)
  · simp only [src] at hn
    split at hn
    · obtain rfl := Option.some.inj hn; exact ⟨x, hx⟩
    · exact h.live _ _ hn
/-- The value says the same under the new names. -/
theorem RT.same {K K2 : Ctx} (hw : K2.w = K.w) (hF : K2.F = K.F) (hb : K2.base = K.base) {x : T} {u : Value} (r : RT K x u) (hx : match x with | .c _ | .und | .junk | .tmp .. | .rp .. | .rb .. | .ms .. => True | _ => False) : RT K2 x u := by
  obtain ⟨w, F, base, σ⟩ := K
  obtain ⟨w2, F2, base2, σ2⟩ := K2
  simp only at hw hF hb
  subst hw; subst hF; subst hb
  cases x with
  | c y => simp only [RT] at r ⊢; exact r
  | und => simp only [RT] at r ⊢; exact r
  | junk => simp only [RT]
  | tmp => simp only [RT] at r ⊢; exact r
  | rp => simp only [RT] at r ⊢; exact r
  | ms => simp only [RT] at r ⊢; exact r
  | rb l off =>
    simp only [RT] at r ⊢
    obtain ⟨b, h1, h2, h3⟩ := r
    refine ⟨b, h1, h2, ?_⟩
    have : ∀ (o : Nat) (l : List U), RBs ⟨w2, F2, base2, σ⟩ b o l → RBs ⟨w2, F2, base2, σ2⟩ b o l := by
      intro o l
      induction l generalizing o with
      | nil => intro _; simp only [RBs]
      | cons y l ih =>
        intro h
        simp only [RBs] at h ⊢
        obtain ⟨⟨v, q1, q2⟩, q3⟩ := h
        exact ⟨⟨v, q1, by cases y <;> simp only [RU] at q2 ⊢ <;> exact q2⟩, ih (o + 1) q3⟩
    exact this 0 l h3
  | _ => exact hx.elim
def FocRes (K : Ctx) (S : St) (F F' : Foc) (x' : T) (u : Value) : Prop := FI K S F' ∧ FLe F F' ∧ RT (K.ren F') x' u
section
variable {m : Nat} {w0 : World} {F0 : Nat → Prop} {K : Ctx} {S S' : St} {a : Act}
theorem ren_src {F : Foc} {n o : Nat} (h : src F.ren n = some o) : (K.ren F).σ n = K.σ o := by
  show (src F.ren n).bind K.σ = _; rw [h]; rfl
theorem RT_sl {F : Foc} {n o off k sz : Nat} {cap : Option Nat} {u : Value} (h : src F.ren n = some o) (r : RT K (.sl o off k sz cap) u) : RT (K.ren F) (.sl n off k sz cap) u := by
  simp only [RT] at r ⊢
  rw [ren_src h]
  exact r
theorem focC_sound (oi : OInv K (obj S.o)) {dup : Bool} {F F' : Foc} {x x' : T} {u : Value} (hI : FI K S F) (r : RT K x u) (h : focC S dup F x = some (x', F')) : FocRes K S F F' x' u := by
  unfold focC at h
  split at h
  · rename_i o off n sz cap
    split at h
    · rename_i o' ho'
      simp only [Option.some.injEq, Prod.mk.injEq] at h
      obtain ⟨rfl, rfl⟩ := h
      have hl : look F.ren o = some o' := by cases dup <;> simp at ho'; exact ho'
      exact ⟨hI, .refl _, RT_sl (hI.back _ _ hl) r⟩
    · split at h
      · rename_i l g gen ho
        dsimp only at h
        have hro : ∀ (y : Ob) (g' gen' : Nat), y = .arr l g' gen' → ∀ K2 : Ctx, K2.w = K.w → K2.F = K.F → K2.base = K.base → KExt (K.ren F) K2 → ∀ s, K.σ o = some s → RO K2 s y := by
          intro y g' gen' e K2 hw hF hb _ s hs
          subst e
          have := oi.objs o _ s ho hs
          simp only [RO] at this ⊢
          rw [hw, hF, hb]
          exact this
        split at h
        · rename_i g' hg'
          simp only [Option.some.injEq, Prod.mk.injEq] at h
          obtain ⟨rfl, rfl⟩ := h
          obtain ⟨h1, h2⟩ := hI.push (y := .arr l g' (if tipOk g gen S.o = true then min gen 1 else 0)) (gs' := F.gs) ho (fun _ _ h => h) (fun g g' h => Nat.lt_succ_of_lt (hI.gs g g' h)) ⟨g', hg', rfl⟩ (fun hx => absurd rfl (hx _ _ _)) (hro _ _ _ rfl)
          exact ⟨h1, h2, RT_sl (by simp [src]) r⟩
        · rename_i hg'
          simp only [Option.some.injEq, Prod.mk.injEq] at h
          obtain ⟨rfl, rfl⟩ := h
          obtain ⟨h1, h2⟩ := hI.push (y := .arr l F.n (if tipOk g gen S.o = true then min gen 1 else 0)) (gs' := (g, F.n) :: F.gs) ho (fun a b h => by
              simp only [look]; split
              · rename_i e; subst e; rw [hg'] at h; simp at h
              · exact h) (fun a b h => by
              simp only [look] at h; split at h
              · obtain rfl := Option.some.inj h; exact Nat.lt_succ_self _
              · exact Nat.lt_succ_of_lt (hI.gs a b h)) ⟨F.n, by simp [look], rfl⟩ (fun hx => absurd rfl (hx _ _ _)) (hro _ _ _ rfl)
          exact ⟨h1, h2, RT_sl (by simp [src]) r⟩
      · rename_i l ho
        simp only [Option.some.injEq, Prod.mk.injEq] at h
        obtain ⟨rfl, rfl⟩ := h
        obtain ⟨h1, h2⟩ := hI.push (y := .fz l) (gs' := F.gs) ho (fun _ _ h => h) (fun g g' h => Nat.lt_succ_of_lt (hI.gs g g' h)) rfl (fun _ hx => absurd rfl (hx _)) (by
          intro K2 hw hF hb _ s hs
          have := oi.objs o _ s ho hs
          simp only [RO] at this ⊢
          rw [hw, hF]
          exact this)
        exact ⟨h1, h2, RT_sl (by simp [src]) r⟩
      · simp at h
  · rename_i o
    split at h
    · rename_i o' ho'
      simp only [Option.some.injEq, Prod.mk.injEq] at h
      obtain ⟨rfl, rfl⟩ := h
      refine ⟨hI, .refl _, ?_⟩
      simp only [RT] at r ⊢
      rw [ren_src (hI.back _ _ ho')]
      exact r
    · rename_i ho'
      split at h
      · rename_i es c ho
        simp only [Option.some.injEq, Prod.mk.injEq] at h
        obtain ⟨rfl, rfl⟩ := h
        obtain ⟨h1, h2⟩ := hI.push (y := .mp es c) (gs' := F.gs) ho (fun _ _ h => h) (fun g g' h => Nat.lt_succ_of_lt (hI.gs g g' h)) rfl (fun _ _ => ho') (by
          intro K2 hw hF hb _ s hs
          have := oi.objs o _ s ho hs
          simp only [RO] at this ⊢
          rw [hw, hF, hb]
          exact this)
        refine ⟨h1, h2, ?_⟩
        simp only [RT] at r ⊢
        rw [ren_src (K := K) (o := o) (by simp [src])]
        exact r
      · simp at h
  · simp at h
  · simp at h
  · simp at h
  · simp at h
  · rename_i n1 n2 n3 n4 n5 n6
    simp only [Option.some.injEq, Prod.mk.injEq] at h
    obtain ⟨rfl, rfl⟩ := h
    refine ⟨hI, .refl _, RT.same (K := K) (K2 := K.ren F) rfl rfl rfl r ?_⟩
    cases x <;> first | trivial | exact (n1 _ _ _ _ _ rfl).elim | exact (n2 _ rfl).elim | exact (n3 _ _ rfl).elim | exact (n4 _ rfl).elim | exact (n5 _ rfl).elim | exact (n6 _ _ rfl).elim
theorem focC_look {dup : Bool} {F F' : Foc} {x x' : T} {o : Nat} {l : List T} (ho : obj S.o o = some (.box l)) (hl : look F.ren o = none) (h : focC S dup F x = some (x', F')) : look F'.ren o = none := by
  have push : ∀ (o2 n : Nat) (y : Ob), obj S.o o2 = some y → (∀ l, y ≠ .box l) → look ((o2, n) :: F.ren) o = none := by
    intro o2 n y h2 hy
    simp only [look]
    split
    · rename_i e; subst e; rw [ho] at h2; obtain rfl := Option.some.inj h2; exact absurd rfl (hy l)
    · exact hl
  unfold focC at h
  split at h
  · split at h
    · simp only [Option.some.injEq, Prod.mk.injEq] at h; obtain ⟨_, rfl⟩ := h; exact hl
    · split at h
      · rename_i h2
        dsimp only at h
        split at h
        · simp only [Option.some.injEq, Prod.mk.injEq] at h; obtain ⟨_, rfl⟩ := h; exact push _ _ _ h2 (by simp)
        · simp only [Option.some.injEq, Prod.mk.injEq] at h; obtain ⟨_, rfl⟩ := h; exact push _ _ _ h2 (by simp)
      · rename_i h2
        simp only [Option.some.injEq, Prod.mk.injEq] at h; obtain ⟨_, rfl⟩ := h; exact push _ _ _ h2 (by simp)
      · simp at h
  · split at h
    · simp only [Option.some.injEq, Prod.mk.injEq] at h; obtain ⟨_, rfl⟩ := h; exact hl
    · split at h
      · rename_i h2
        simp only [Option.some.injEq, Prod.mk.injEq] at h; obtain ⟨_, rfl⟩ := h; exact push _ _ _ h2 (by simp)
      · simp at h
  all_goals first
    | (simp at h; done)
    | (simp only [Option.some.injEq, Prod.mk.injEq] at h; obtain ⟨_, rfl⟩ := h; exact hl)
theorem focL_look {dup : Bool} {o : Nat} {l0 : List T} (ho : obj S.o o = some (.box l0)) : ∀ {l l' : List T} {F F' : Foc}, look F.ren o = none → focL S dup l F = some (l', F') → look F'.ren o = none
  | [], l', F, F', hl, h => by
    simp only [focL, Option.some.injEq, Prod.mk.injEq] at h
    obtain ⟨_, rfl⟩ := h; exact hl
  | x :: l, l', F, F', hl, h => by
    simp only [focL] at h
    obtain ⟨⟨x1, F1⟩, h1, h⟩ := Option.bind_eq_some_iff.1 h
    obtain ⟨⟨l1, F2⟩, h2, h3⟩ := Option.map_eq_some_iff.1 h
    simp only [Prod.mk.injEq] at h3
    obtain ⟨rfl, rfl⟩ := h3
    exact focL_look ho (focC_look ho hl h1) h2
theorem focL_sound (oi : OInv K (obj S.o)) {dup : Bool} : ∀ {l l' : List T} {F F' : Foc} {us : List Value}, FI K S F → RTs K l us → focL S dup l F = some (l', F') → FI K S F' ∧ FLe F F' ∧ RTs (K.ren F') l' us
  | [], l', F, F', us, hI, r, h => by
    simp only [focL, Option.some.injEq, Prod.mk.injEq] at h
    obtain ⟨rfl, rfl⟩ := h
    exact ⟨hI, .refl _, by simp only [RTs] at r ⊢; exact r⟩
  | x :: l, l', F, F', us, hI, r, h => by
    simp only [focL] at h
    obtain ⟨⟨x1, F1⟩, h1, h⟩ := Option.bind_eq_some_iff.1 h
    obtain ⟨⟨l1, F2⟩, h2, h3⟩ := Option.map_eq_some_iff.1 h
    simp only [Prod.mk.injEq] at h3
    obtain ⟨rfl, rfl⟩ := h3
    simp only [RTs] at r
    obtain ⟨u, vs, rfl, r1, r2⟩ := r
    obtain ⟨a1, a2, a3⟩ := focC_sound oi hI r1 h1
    obtain ⟨b1, b2, b3⟩ := focL_sound oi a1 r2 h2
    refine ⟨b1, a2.trans b2, ?_⟩
    simp only [RTs]
    exact ⟨u, vs, rfl, RT.mono b2.ext _ _ a3, b3⟩
theorem focP_sound (oi : OInv K (obj S.o)) {dup : Bool} {F F' : Foc} {x x' : T} {u : Value} (hI : FI K S F) (r : RT K x u) (h : focP S dup F x = some (x', F')) : FocRes K S F F' x' u := by
  unfold focP at h
  split at h
  · rename_i o off
    split at h
    · rename_i o' ho'
      simp only [Option.some.injEq, Prod.mk.injEq] at h
      obtain ⟨rfl, rfl⟩ := h
      refine ⟨hI, .refl _, ?_⟩
      simp only [RT] at r ⊢
      rw [ren_src (hI.back _ _ ho')]
      exact r
    · rename_i hlook
      split at h
      · rename_i l ho
        obtain ⟨⟨l1, F1⟩, h1, h2⟩ := Option.map_eq_some_iff.1 h
        simp only [Prod.mk.injEq] at h2
        obtain ⟨rfl, rfl⟩ := h2
        simp only [RT] at r
        obtain ⟨b, sh, hs, e⟩ := r
        have hro := oi.objs o _ _ ho hs
        simp only [RO] at hro
        obtain ⟨b', cs, et, q1, q2, q3, q4, q5⟩ := hro
        obtain ⟨a1, a2, a3⟩ := focL_sound oi hI q5 h1
        obtain ⟨c1, c2⟩ := a1.push (o := o) (y := .box l1) (gs' := F1.gs) ho (fun _ _ h => h) (fun g g' h => Nat.lt_succ_of_lt (a1.gs g g' h)) ⟨l1, rfl⟩ (fun _ _ => by
            -- nothing in a box is the box itself
            exact focL_look ho hlook h1) (by
          intro K2 hw hF hb hext s hs'
          rw [hs] at hs'; obtain rfl := Option.some.inj hs'
          simp only [RO]
          refine ⟨b', cs, et, q1, by rw [hF]; exact q2, by rw [hb]; exact q3, by rw [hw]; exact q4, RTs.mono hext _ _ a3⟩)
        refine ⟨c1, a2.trans c2, ?_⟩
        simp only [RT]
        rw [ren_src (K := K) (o := o) (by simp [src])]
        exact ⟨b, sh, hs, e⟩
      · simp at h
  · exact focC_sound oi hI r h
theorem focPs_sound (oi : OInv K (obj S.o)) {dup : Bool} : ∀ {l l' : List T} {F F' : Foc} {us : List Value}, FI K S F → RTs K l us → focPs S dup l F = some (l', F') → FI K S F' ∧ FLe F F' ∧ RTs (K.ren F') l' us
  | [], l', F, F', us, hI, r, h => by
    simp only [focPs, Option.some.injEq, Prod.mk.injEq] at h
    obtain ⟨rfl, rfl⟩ := h
    exact ⟨hI, .refl _, by simp only [RTs] at r ⊢; exact r⟩
  | x :: l, l', F, F', us, hI, r, h => by
    simp only [focPs] at h
    obtain ⟨⟨x1, F1⟩, h1, h⟩ := Option.bind_eq_some_iff.1 h
    obtain ⟨⟨l1, F2⟩, h2, h3⟩ := Option.map_eq_some_iff.1 h
    simp only [Prod.mk.injEq] at h3
    obtain ⟨rfl, rfl⟩ := h3
    simp only [RTs] at r
    obtain ⟨u, vs, rfl, r1, r2⟩ := r
    obtain ⟨a1, a2, a3⟩ := focP_sound oi hI r1 h1
    obtain ⟨b1, b2, b3⟩ := focPs_sound oi a1 r2 h2
    refine ⟨b1, a2.trans b2, ?_⟩
    simp only [RTs]
    exact ⟨u, vs, rfl, RT.mono b2.ext _ _ a3, b3⟩
theorem foc1_sound (oi : OInv K (obj S.o)) {dup : Bool} {F F' : Foc} {x x' : T} {u : Value} (hI : FI K S F) (r : RT K x u) (h : foc1 S dup F x = some (x', F')) : FocRes K S F F' x' u := by
  unfold foc1 at h
  split at h
  · obtain ⟨⟨l1, F1⟩, h1, h2⟩ := Option.map_eq_some_iff.1 h
    simp only [Prod.mk.injEq] at h2
    obtain ⟨rfl, rfl⟩ := h2
    simp only [RT] at r
    obtain ⟨cs, rfl, r⟩ := r
    obtain ⟨a1, a2, a3⟩ := focL_sound oi hI r h1
    exact ⟨a1, a2, by simp only [RT]; exact ⟨cs, rfl, a3⟩⟩
  · obtain ⟨⟨l1, F1⟩, h1, h2⟩ := Option.map_eq_some_iff.1 h
    simp only [Prod.mk.injEq] at h2
    obtain ⟨rfl, rfl⟩ := h2
    simp only [RT] at r
    obtain ⟨cs, rfl, r⟩ := r
    obtain ⟨a1, a2, a3⟩ := focL_sound oi hI r h1
    exact ⟨a1, a2, by simp only [RT]; exact ⟨cs, rfl, a3⟩⟩
  · obtain ⟨⟨l1, F1⟩, h1, h2⟩ := Option.map_eq_some_iff.1 h
    simp only [Prod.mk.injEq] at h2
    obtain ⟨rfl, rfl⟩ := h2
    simp only [RT] at r
    obtain ⟨cs, rfl, r⟩ := r
    obtain ⟨a1, a2, a3⟩ := focPs_sound oi hI r h1
    exact ⟨a1, a2, by simp only [RT]; exact ⟨cs, rfl, a3⟩⟩
  · exact focP_sound oi hI r h
theorem focK_sound (h : Inv m w0 F0 K S a) : ∀ {k : Keep} {F F' : Foc} {ts : List (Nat × T)}, FI K S F → focK S k F = some (ts, F') → FI K S F' ∧ FLe F F' ∧ ∀ t, RT (K.ren F') (get ts t) (a.tmps.getD t undef)
  | [], F, F', ts, hI, hk => by
    simp only [focK, Option.some.injEq, Prod.mk.injEq] at hk
    obtain ⟨rfl, rfl⟩ := hk
    exact ⟨hI, .refl _, fun t => by simp only [get, RT]⟩
  | (t0, dup) :: k, F, F', ts, hI, hk => by
    simp only [focK] at hk
    obtain ⟨⟨x1, F1⟩, h1, hk⟩ := Option.bind_eq_some_iff.1 hk
    obtain ⟨⟨l1, F2⟩, h2, h3⟩ := Option.map_eq_some_iff.1 hk
    simp only [Prod.mk.injEq] at h3
    obtain ⟨rfl, rfl⟩ := h3
    obtain ⟨a1, a2, a3⟩ := foc1_sound h.oi hI (h.tm t0) h1
    obtain ⟨b1, b2, b3⟩ := focK_sound h a1 h2
    refine ⟨b1, a2.trans b2, fun t => ?_⟩
    simp only [get]
    split
    · rename_i e; subst e; exact RT.mono b2.ext _ _ a3
    · exact b3 t
theorem focus_sound (h : Inv m w0 F0 K S a) {k : Keep} (hf : focus k S = some S') : ∃ K', K'.w = K.w ∧ Inv m w0 F0 K' S' a := by
  unfold focus at hf
  obtain ⟨⟨ts, F⟩, h1, rfl⟩ := Option.map_eq_some_iff.1 hf
  have h0 : FI K S ⟨[], [], [], 0⟩ := ⟨fun n o h => by simp [src] at h, fun n y h => by simp [obj] at h, fun n y s h => by simp [obj] at h, fun g g' h => by simp [look] at h, fun n n' o x h => by simp [src] at h, fun o n h => by simp [look] at h, fun n o h => by simp [src] at h⟩
  obtain ⟨hI, _, ht⟩ := focK_sound h h0 h1
  refine ⟨K.ren F, rfl, ?_⟩
  exact {
    good := ⟨h.good.F, h.good.base⟩
    base := h.base
    below := h.below
    Fin := h.Fin
    Fout := h.Fout
    size := h.size
    defers := h.defers
    tm := ht
    oi := {
      objs := hI.objs
      dom := fun n y hy => by
        obtain ⟨o, x, h2, h3, _⟩ := hI.ob n y hy
        rw [ren_src h2]; exact h.oi.dom o x h3
      alias := fun n n' y y' b sh sh' hy hy' hs hs' => by
        obtain ⟨o, x, h2, h3, h4⟩ := hI.ob n y hy
        obtain ⟨o', x', h5, h6, h7⟩ := hI.ob n' y' hy'
        rw [ren_src h2] at hs
        rw [ren_src h5] at hs'
        have hal : Alias x x' sh sh' ∨ n = n' ∨ (o = o' ∧ ∃ l g e, x = .arr l g e) ∨ (o = o' ∧ ∃ l, x = .fz l) := by
          rcases h.oi.alias o o' x x' b sh sh' h3 h6 hs hs' with rfl | hal
          · by_cases ha : ∃ l g e, x = .arr l g e
            · exact .inr (.inr (.inl ⟨rfl, ha⟩))
            · by_cases hb : ∃ l, x = .fz l
              · exact .inr (.inr (.inr ⟨rfl, hb⟩))
              · exact .inr (.inl (hI.uniq n n' o x h2 h5 h3 (fun l g e h => ha ⟨l, g, e, h⟩) (fun l h => hb ⟨l, h⟩)))
          · exact .inl hal
        rcases hal with hal | rfl | ⟨rfl, l, g, e, rfl⟩ | ⟨rfl, l, rfl⟩
        · right
          cases x with
          | arr l g e =>
            cases x' with
            | arr l' g' e' =>
              simp only [FocOb] at h4 h7
              obtain ⟨g1, q1, rfl⟩ := h4
              obtain ⟨g2, q2, rfl⟩ := h7
              simp only [Alias] at hal ⊢
              obtain ⟨rfl, rfl, c1, c2⟩ := hal
              rw [q1] at q2; obtain rfl := Option.some.inj q2
              refine ⟨rfl, rfl, fun _ hpos => ?_, fun _ hpos => ?_⟩
              · split at hpos
                · rename_i ht; exact c1 (tipOk_get ht h3 rfl) (by omega)
                · omega
              · split at hpos
                · rename_i ht; exact c2 (tipOk_get ht h6 rfl) (by omega)
                · omega
            | dead => simp [FocOb] at h7
            | _ => simp [Alias] at hal
          | fz l =>
            cases x' with
            | fz l' => simp only [FocOb] at h4 h7; subst h4; subst h7; simp [Alias]
            | dead => simp [FocOb] at h7
            | _ => simp [Alias] at hal
          | dead => simp [FocOb] at h4
          | box l => cases x' <;> first | (simp [Alias] at hal; done) | (simp [FocOb] at h7; done)
          | mp es c => cases x' <;> first | (simp [Alias] at hal; done) | (simp [FocOb] at h7; done)
        · exact .inl rfl
        · right
          rw [h3] at h6; obtain rfl := Option.some.inj h6
          rw [hs] at hs'
          simp at hs'
          simp only [FocOb] at h4 h7
          obtain ⟨g1, q1, rfl⟩ := h4
          obtain ⟨g2, q2, rfl⟩ := h7
          rw [q1] at q2; obtain rfl := Option.some.inj q2
          simp only [Alias]
          exact ⟨trivial, hs', fun _ _ => Nat.le_refl _, fun _ _ => Nat.le_refl _⟩
        · right
          rw [h3] at h6; obtain rfl := Option.some.inj h6
          simp only [FocOb] at h4 h7
          subst h4; subst h7
          simp [Alias] }
    fresh := fun n hn => by
      show (src F.ren n).bind K.σ = none
      cases hs : src F.ren n with
      | none => rfl
      | some o => have := hI.lt n o hs; have hn' : F.n ≤ n := hn; omega
    grp := fun n l g e hy => by
      obtain ⟨o, x, h2, h3, h4⟩ := hI.ob n _ hy
      cases x with
      | arr l0 g0 e0 =>
        simp only [FocOb] at h4
        obtain ⟨g', q1, q2⟩ := h4
        simp at q2
        rw [q2.2.1]; exact hI.gs _ _ q1
      | _ => simp [FocOb] at h4 }
theorem KExt.more {K : Ctx} {n : Nat} (h : K.σ n = none) : KExt K { K with σ := fun o => if o = n then some none else K.σ o } := ⟨rfl, fun _ h => h, fun o s hs => by
    show (if o = n then _ else _) = _
    rw [if_neg (by rintro rfl; rw [h] at hs; simp at hs)]; exact hs, fun _ _ => rfl, fun _ cs e fr h => ⟨cs, e, fr, h, rfl⟩⟩
theorem RTs_set {K : Ctx} {n : Nat} {y : T} : ∀ {l : List T} {us : List Value} {i : Nat}, RTs K l us → (∀ x u, l[i]? = some x → us[i]? = some u → RT K y u) → RTs K (l.set i y) us
  | [], us, i, h, _ => h
  | x :: l, us, 0, h, hy => by
    simp only [RTs, List.set_cons_zero] at h ⊢
    obtain ⟨u, vs, rfl, h1, h2⟩ := h
    exact ⟨u, vs, rfl, hy x u rfl rfl, h2⟩
  | x :: l, us, i + 1, h, hy => by
    simp only [RTs, List.set_cons_succ] at h ⊢
    obtain ⟨u, vs, rfl, h1, h2⟩ := h
    exact ⟨u, vs, rfl, h1, RTs_set (n := n) h2 fun x u hx hu => hy x u (by simpa using hx) (by simpa using hu)⟩
theorem nil_own {K : Ctx} {n sz : Nat} {u : Value} (h : RT K (.c (.s (some 0) 0 [])) u) (hn : K.σ n = none) : RT { K with σ := fun o => if o = n then some none else K.σ o } (.sl n 0 0 sz none) u := by
  simp only [RT, RC] at h
  obtain ⟨A, c, rfl, hc, hex, _⟩ := h
  have : c = 0 := hex 0 rfl
  subst this
  simp only [RT]
  exact ⟨A, 0, rfl, Nat.le_refl _, fun k hk => by simp at hk, .inl ⟨rfl, none, by simp⟩⟩
theorem Inv.more (h : Inv m w0 F0 K S a) : Inv m w0 F0 { K with σ := fun o => if o = S.n then some none else K.σ o } ⟨S.t, (S.n, .arr [] S.n 1) :: S.o, S.n + 1⟩ a := by
  have hn := h.fresh S.n (Nat.le_refl _)
  have hext := KExt.more hn
  have hob : ∀ o x, obj S.o o = some x → S.n ≠ o := fun o x ho e => by subst e; exact h.oi.dom _ _ ho hn
  exact {
    good := ⟨h.good.F, h.good.base⟩
    base := h.base
    below := h.below
    Fin := h.Fin
    Fout := h.Fout
    size := h.size
    defers := h.defers
    tm := fun t => RT.mono hext _ _ (h.tm t)
    oi := {
      objs := fun o x s ho hs => by
        simp only [obj] at ho
        by_cases e : S.n = o
        · rw [if_pos e] at ho
          obtain rfl := Option.some.inj ho
          simp only [if_pos e.symm, Option.some.injEq] at hs
          subst hs
          simp only [RO]; exact .inl ⟨trivial, trivial⟩
        · rw [if_neg e] at ho
          simp only [if_neg (fun q => e (Eq.symm q))] at hs
          exact RO.mono hext (fun _ _ _ h => h) (fun _ _ _ => rfl) (h.oi.objs o x s ho hs)
      dom := fun o x ho => by
        simp only [obj] at ho
        by_cases e : S.n = o
        · simp [e]
        · rw [if_neg e] at ho
          simp only [if_neg (fun q => e (Eq.symm q))]
          exact h.oi.dom o x ho
      alias := fun o o' x x' b sh sh' ho ho' hs hs' => by
        simp only [obj] at ho ho'
        by_cases e : o = S.n
        · simp [e] at hs
        · by_cases e' : o' = S.n
          · simp [e'] at hs'
          · rw [if_neg (fun q => e (Eq.symm q))] at ho
            rw [if_neg (fun q => e' (Eq.symm q))] at ho'
            simp only [if_neg e] at hs
            simp only [if_neg e'] at hs'
            exact h.oi.alias o o' x x' b sh sh' ho ho' hs hs' }
    fresh := fun o ho => by
      have ho' : S.n + 1 ≤ o := ho
      show (if o = S.n then _ else _) = _
      rw [if_neg (by omega)]; exact h.fresh o (by omega)
    grp := fun o l g e ho => by
      simp only [obj] at ho
      show g < S.n + 1
      by_cases e : S.n = o
      · rw [if_pos e] at ho
        simp at ho; omega
      · rw [if_neg e] at ho
        have := h.grp o l g _ ho; omega }
theorem own1_sound (t : Nat) (i : Option Nat) (sz : Nat) (h : Inv m w0 F0 K S a) : ∃ K', K'.w = K.w ∧ Inv m w0 F0 K' (own1 t i sz S) a := by
  have hn := h.fresh S.n (Nat.le_refl _)
  have hm := h.more
  unfold own1
  split
  · rename_i hg
    refine ⟨{ K with σ := fun o => if o = S.n then some none else K.σ o }, rfl, { hm with tm := fun t' => ?_ }⟩
    simp only [get]
    split
    · rename_i e; subst e
      have := h.tm t
      rw [hg] at this
      exact nil_own this hn
    · exact hm.tm t'
  · rename_i ii o off hg
    split
    · rename_i l ho
      split
      · rename_i hi
        refine ⟨{ K with σ := fun o => if o = S.n then some none else K.σ o }, rfl, ?_⟩
        have hne : S.n ≠ o := fun e => by subst e; exact h.oi.dom _ _ ho hn
        have hobj : ∀ p y, obj ((S.n, .arr [] S.n 1) :: setO o (.box (l.set ii (.sl S.n 0 0 sz none))) S.o) p = some y → (p = o ∧ y = .box (l.set ii (.sl S.n 0 0 sz none))) ∨ (p ≠ o ∧ obj ((S.n, .arr [] S.n 1) :: S.o) p = some y) := fun p y hp => by
          simp only [obj] at hp ⊢
          by_cases e : S.n = p
          · rw [if_pos e] at hp ⊢; exact .inr ⟨by omega, hp⟩
          · rw [if_neg e] at hp ⊢
            rw [obj_setO] at hp
            by_cases e' : p = o
            · subst e'
              rw [if_pos rfl, ho] at hp
              exact .inl ⟨rfl, by simpa using hp.symm⟩
            · rw [if_neg e'] at hp
              exact .inr ⟨e', hp⟩
        have hbox : obj ((S.n, Ob.arr [] S.n 1) :: S.o) o = some (.box l) := by simp only [obj, if_neg hne]; exact ho
        exact { hm with
          oi := {
            objs := fun p y s hp hs => by
              rcases hobj p y hp with ⟨rfl, rfl⟩ | ⟨_, h2⟩
              · have := hm.oi.objs _ _ s hbox hs
                simp only [RO] at this ⊢
                obtain ⟨b, cs, e, q1, q2, q3, q4, q5⟩ := this
                refine ⟨b, cs, e, q1, q2, q3, q4, RTs_set (n := 0) q5 fun x u hx hu => ?_⟩
                rw [hi] at hx
                obtain rfl := Option.some.inj hx
                obtain ⟨s0, hs0⟩ : ∃ s0, K.σ p = some s0 := by
                  cases hq : K.σ p with
                  | none => exact absurd hq (h.oi.dom _ _ ho)
                  | some s0 => exact ⟨s0, rfl⟩
                have := h.oi.objs _ _ _ ho hs0
                simp only [RO] at this
                obtain ⟨b', cs', e', q1', q2', q3', q4', q5'⟩ := this
                have hs' : K.σ p = some s := by simpa only [if_neg (fun q => hne (Eq.symm q))] using hs
                rw [hs0] at hs'; obtain rfl := Option.some.inj hs'
                rw [q1] at q1'; obtain ⟨rfl, _⟩ := Prod.mk.inj (Option.some.inj q1')
                have q4'' : K.w.heap[b]? = some (.cells cs e (0, 0)) := q4
                rw [q4''] at q4'; simp at q4'; obtain ⟨rfl, rfl⟩ := q4'
                obtain ⟨u', hu', r⟩ := RTs_get _ _ _ _ q5' hi
                rw [hu] at hu'; obtain rfl := Option.some.inj hu'
                exact nil_own r hn
              · exact hm.oi.objs p y s h2 hs
            dom := fun p y hp => by
              rcases hobj p y hp with ⟨rfl, rfl⟩ | ⟨_, h2⟩
              · exact hm.oi.dom _ _ hbox
              · exact hm.oi.dom p y h2
            alias := fun p p' y y' b sh sh' hp hp' hs hs' => by
              have un : ∀ p y, obj ((S.n, .arr [] S.n 1) :: setO o (.box (l.set ii (.sl S.n 0 0 sz none))) S.o) p = some y → ∃ z, obj ((S.n, .arr [] S.n 1) :: S.o) p = some z ∧ ∀ q sh sh', (Alias z q sh sh' → Alias y q sh sh') ∧ (Alias q z sh sh' → Alias q y sh sh') := fun p y hp => by
                rcases hobj p y hp with ⟨rfl, rfl⟩ | ⟨_, h2⟩
                · exact ⟨_, hbox, fun q sh sh' => ⟨fun h => by cases q <;> simp [Alias] at h ⊢, fun h => by cases q <;> simp [Alias] at h ⊢⟩⟩
                · exact ⟨y, h2, fun q sh sh' => ⟨id, id⟩⟩
              obtain ⟨z, h1, h2⟩ := un p y hp
              obtain ⟨z', h3, h4⟩ := un p' y' hp'
              exact (hm.oi.alias p p' z z' b sh sh' h1 h3 hs hs').imp id fun q => (h4 _ _ _).2 ((h2 _ _ _).1 q) }
          grp := fun p l' g e hp => by
            rcases hobj p _ hp with ⟨_, h2⟩ | ⟨_, h2⟩
            · simp at h2
            · exact hm.grp p l' g e h2 }
      · exact ⟨K, rfl, h⟩
    · exact ⟨K, rfl, h⟩
  · exact ⟨K, rfl, h⟩
theorem prep_sound (l : List (Nat × Option Nat × Nat)) : ∀ {K : Ctx} {S : St}, Inv m w0 F0 K S a → ∃ K', K'.w = K.w ∧ Inv m w0 F0 K' (prep l S) a := by
  induction l with
  | nil => intro K S h; exact ⟨K, rfl, h⟩
  | cons x l ih =>
    intro K S h
    obtain ⟨t, i, sz⟩ := x
    obtain ⟨K1, h1, h2⟩ := own1_sound t i sz h
    obtain ⟨K2, h3, h4⟩ := ih h2
    exact ⟨K2, h3.trans h1, h4⟩
end
end Go.Proofs.YtnbijiopcgfmfaaGreat.Tev
/- Loops, functions, the whole: what the evaluator returns is what a call returns. -/
namespace Go.Proofs.YtnbijiopcgfmfaaGreat.Tev
open Go Go.RowKit
set_option linter.unusedSectionVars false
set_option linter.unusedVariables false
set_option linter.unusedSimpArgs false
theorem min_of {p : Nat → Prop} : ∀ n, p n → ∃ k, p k ∧ ∀ j, p j → k ≤ j := by
  intro n
  induction n using Nat.strongRecOn with
  | _ n ih =>
    intro h
    by_cases hj : ∃ j, j < n ∧ p j
    · obtain ⟨j, h1, h2⟩ := hj; exact ih j h1 h2
    · exact ⟨n, h, fun j hp => by rcases Nat.lt_or_ge j n with h' | h'; exact absurd ⟨j, h', hp⟩ hj; exact h'⟩
open Classical in
noncomputable def least (p : Nat → Prop) : Nat := if h : ∃ k, p k ∧ ∀ j, p j → k ≤ j then Classical.choose h else 0
theorem least_spec {p : Nat → Prop} {n : Nat} (h : p n) : p (least p) ∧ ∀ j, p j → least p ≤ j := by
  have hm := min_of n h
  unfold least
  rw [dif_pos hm]
  exact Classical.choose_spec hm
/-- A loop by rounds that are counted down. -/
theorem wp_loop_n {P : Program} {c : Code} {Q : Exit → Act → World → Prop} (I : Nat → Act → World → Prop) (h0 : ∀ a w, ¬ I 0 a w)
    (round : ∀ k a w, I (k + 1) a w → c.wp P (Exit.then (fun a' w' => I k a' w') Q) a w) {k : Nat} {a : Act} {w : World} (h : I k a w) : (Code.loop c).wp P Q a w := by
  refine wp_loop (fun a w => ∃ k, I k a w) (fun a w => least fun k => I k a w) ⟨k, h⟩ fun a w ⟨j, hj⟩ => ?_
  obtain ⟨h1, h2⟩ := least_spec (p := fun k => I k a w) hj
  generalize hl : least (fun k => I k a w) = l at h1
  cases l with
  | zero => exact absurd h1 (h0 a w)
  | succ l =>
    refine wp_mono (round l a w h1) fun e a' w' q => ?_
    cases e with
    | normal => exact ⟨⟨l, q⟩, by have := (least_spec (p := fun k => I k a' w') (n := l) q).2 l q; show (least fun k => I k a' w') < l + 1; omega⟩
    | _ => exact q
theorem loops_sub : ∀ (c b : Code), b ∈ loopsOf c → ∀ x ∈ loopsOf b, x ∈ loopsOf c := by
  intro c
  induction c with
  | loop d ih =>
    intro b hb x hx
    simp only [loopsOf, List.mem_cons] at hb ⊢
    rcases hb with rfl | hb
    · exact .inr hx
    · exact .inr (ih b hb x hx)
  | seq c d ih1 ih2 => intro b hb x hx; simp only [loopsOf, List.mem_append] at hb ⊢; exact hb.imp (fun h => ih1 b h x hx) (fun h => ih2 b h x hx)
  | cond q c d ih1 ih2 => intro b hb x hx; simp only [loopsOf, List.mem_append] at hb ⊢; exact hb.imp (fun h => ih1 b h x hx) (fun h => ih2 b h x hx)
  | block id c ih => intro b hb x hx; simp only [loopsOf] at hb ⊢; exact ih b hb x hx
  | _ => intro b hb; simp [loopsOf] at hb
theorem okCode_loop {nd : Nat → List (Nat × Nat)} {m : Nat} : ∀ (c b : Code), b ∈ loopsOf c → okCodeN nd m c = true → okCodeN nd m b = true := by
  intro c
  induction c with
  | loop d ih =>
    intro b hb hk
    simp only [loopsOf, List.mem_cons] at hb
    simp only [okCodeN] at hk
    rcases hb with rfl | hb
    · exact hk
    · exact ih b hb hk
  | seq c d ih1 ih2 => intro b hb hk; simp only [loopsOf, List.mem_append] at hb; simp only [okCodeN, Bool.and_eq_true] at hk; rcases hb with h | h; exact ih1 b h hk.1; exact ih2 b h hk.2
  | cond q c d ih1 ih2 => intro b hb hk; simp only [loopsOf, List.mem_append] at hb; simp only [okCodeN, Bool.and_eq_true] at hk; rcases hb with h | h; exact ih1 b h hk.1; exact ih2 b h hk.2
  | block id c ih => intro b hb hk; simp only [loopsOf] at hb; simp only [okCodeN] at hk; exact ih b hb hk
  | _ => intro b hb; simp [loopsOf] at hb

section
variable {E : Env} {pr : FuncId → List T → Option R}
theorem ora_loop (hm : E.P.follows .mixedOrders = true) {f : FuncId} {fn : Func} {body : Code} (hf : E.P.funcs[f]? = some fn) (hb : fn.body = some body) (hok : okFuncN (E.nd f) fn = true) :
    ∀ n, (∀ k, k < n → CallOK E.P (ora E pr k).call) → ∀ w0 F0, LoopOK E fn.ntmps w0 F0 body ((ora E pr n).loop f) := by
  have hok2 : okCodeN (E.nd f) fn.ntmps body = true ∧ nodupB ((loopsOf body).map firstId) = true := by
    unfold okFuncN at hok
    rw [hb] at hok
    simp only [Bool.and_eq_true] at hok
    exact hok.2
  intro n
  induction n using Nat.strongRecOn with
  | _ n ih =>
    intro hcl w0 F0 id S e S' hl b hfb K a hi Q hq
    have hbm : b ∈ loopsOf body := by rw [findLoop_find] at hfb; exact List.mem_of_find?_eq_some hfb
    refine wp_loop_n (fun k a w => k ≤ n ∧ ∃ K S, K.w = w ∧ Inv fn.ntmps w0 F0 K S a ∧ (ora E pr k).loop f id S = some (e, S')) ?_ ?_ (k := n) ⟨Nat.le_refl _, K, S, rfl, hi, hl⟩
    · rintro a w ⟨_, K, S, _, _, h⟩
      simp [ora] at h
    · rintro k a w ⟨hk, K, S, rfl, hi, h⟩
      simp only [ora, runL] at h
      obtain ⟨S1, h1, h⟩ := Option.bind_eq_some_iff.1 h
      obtain ⟨K0, hw0, hi0⟩ := prep_sound _ hi
      obtain ⟨K1, hw1, hi1⟩ := focus_sound hi0 h1
      have hw := hw1.trans hw0
      rw [hf] at h
      simp only [Option.bind_some, hb, hfb] at h
      rw [← hw]
      have te := fun e' S2 he => te_sound (E := E) (O := ora E pr k) (m := fn.ntmps) (w0 := w0) (F0 := F0) hm (hcl k (by omega)) (f := f) (body := body) (ih k (by omega) (fun j hj => hcl j (by omega)) w0 F0) hok2.2 b (fun x hx => loops_sub body b hbm x hx) (okCode_loop body b hbm hok2.1) S1 e' S2 he K1 a hi1
      split at h
      · rename_i S2 h2
        exact te .nor S2 h2 _ fun K' a' hi' => ⟨by omega, K', S2, rfl, hi', h⟩
      · rename_i i S2 h2
        obtain ⟨S3, h3, h4⟩ := Option.map_eq_some_iff.1 h
        simp only [Prod.mk.injEq] at h4
        obtain ⟨rfl, rfl⟩ := h4
        refine te (.exit i) S2 h2 _ fun K' a' hi' => ?_
        obtain ⟨K3, hw3, hi3⟩ := focus_sound hi' h3
        show Q (.exit i) a' K'.w
        rw [← hw3]
        exact hq K3 a' hi3
      · rename_i S2 h2
        obtain ⟨S3, h3, h4⟩ := Option.map_eq_some_iff.1 h
        simp only [Prod.mk.injEq] at h4
        obtain ⟨rfl, rfl⟩ := h4
        refine te .ret S2 h2 _ fun K' a' hi' => ?_
        obtain ⟨K3, hw3, hi3⟩ := focus_sound hi' h3
        show Q .ret a' K'.w
        rw [← hw3]
        exact hq K3 a' hi3
      · simp at h

/-! The end of a function. -/
def resSem (tm : Array Value) : ResultVar → Sem Value
  | .tmp t => Pure.pure (tm.getD t undef)
  | .cell a t => do loadVar t (← asAddr (tm.getD a undef))
theorem mapM_one (tm : Array Value) {P : Program} {w : World} : ∀ (rs : List ResultVar) (us : List Value), us.length = rs.length → (∀ (i : Nat) (r : ResultVar) (u : Value), rs[i]? = some r → us[i]? = some u → (resSem tm r).run P w = .ok u w) →
    (rs.mapM (resSem tm)).run P w = .ok us w
  | [], us, h, _ => by
    obtain rfl : us = [] := List.length_eq_zero_iff.1 (by simpa using h)
    rfl
  | r :: rs, us, h, hh => by
    cases us with
    | nil => simp at h
    | cons u us =>
      have h0 := hh 0 r u rfl rfl
      have ih := mapM_one tm rs us (by simpa using h) fun i r u hr hu => hh (i + 1) r u (by simpa using hr) (by simpa using hu)
      rw [List.mapM_cons]
      show (Sem.bind _ _).run P w = _
      rw [Sem.run_bind', h0]
      show (Sem.bind _ _).run P w = _
      rw [Sem.run_bind', ih]
      rfl
def packV : List Value → Value
  | [u] => u
  | us => .tuple us.toArray
theorem results_run {P : Program} (fn : Func) (tm : Array Value) {w : World} {us : List Value} (hl : us.length = fn.results.toList.length) (h : ∀ (i : Nat) (r : ResultVar) (u : Value), fn.results.toList[i]? = some r → us[i]? = some u → (resSem tm r).run P w = .ok u w) :
    (results fn tm).run P w = .ok (packV us) w := by
  have := mapM_one (P := P) tm fn.results.toList us hl h
  have hres : results fn tm = Sem.bind (fn.results.mapM (resSem tm)) fun vs => Sem.pure (if h : vs.size = 1 then vs[0] else .tuple vs) := rfl
  rw [hres, Array.mapM_eq_mapM_toList]
  show (Sem.bind (Sem.bind _ _) _).run P w = _
  rw [Sem.run_bind', Sem.run_bind', this]
  clear hl h this hres
  rcases us with _ | ⟨u, _ | ⟨v, us⟩⟩ <;> rfl
theorem resT_sound {P : Program} {m : Nat} {w0 : World} {F0 : Nat → Prop} {K : Ctx} {S : St} {a : Act} (h : Inv m w0 F0 K S a) {r : ResultVar} {x : T} (hr : resT P S r = some x) :
    ∃ u, (resSem a.tmps r).run P K.w = .ok u K.w ∧ RT K x u := by
  cases r with
  | tmp t =>
    simp only [resT, Option.some.injEq] at hr; subst hr
    exact ⟨_, rfl, h.tm t⟩
  | cell c t =>
    simp only [resT] at hr
    obtain ⟨b, o, v, e, hv, r⟩ := load_core (P := P) (ob := obj S.o) h.oi.objs t rfl (h.tm c) hr
    refine ⟨v, ?_, r⟩
    simp only [resSem, e, asAddr, bind, Pure.pure, Sem.bind, hv]

/-- What has been laid out for the caller so far. -/
structure ExpInv (K : Ctx) (S : St) (acc : List Nat × List (List C)) (pl : Nat → Option (Nat × Nat)) : Prop where
  rows : ∀ (k : Nat) (l : List C), acc.2[k]? = some l → (pl k = none ∧ l = []) ∨ ∃ b sh cs e, pl k = some (b, sh) ∧ ¬ K.F b ∧ K.base ≤ b ∧ K.w.heap[b]? = some (.cells cs e (0, 0)) ∧ RCs K.w K.F b sh l ∧
    ∃ o l0 g gen sh0, obj S.o o = some (.arr l0 g gen) ∧ g ∈ acc.1 ∧ K.σ o = some (some (b, sh0))
  apart : ∀ i j b sh sh', i < acc.2.length → j < acc.2.length → pl i = some (b, sh) → pl j = some (b, sh') → i = j
def Out (K : Ctx) (S : St) (acc acc' : List Nat × List (List C)) (pl : Nat → Option (Nat × Nat)) (R : (Nat → Nat → (Nat → Option (Option (Nat × Nat))) → Ctx → Prop)) : Prop :=
  ∃ pl', (∀ k, k < acc.2.length → pl' k = pl k) ∧ ExpInv K S acc' pl' ∧ acc.2.length ≤ acc'.2.length ∧
    ∀ (n base : Nat) (σ : Nat → Option (Option (Nat × Nat))), (∀ k, k < acc'.2.length → σ (n + k) = some (pl' k)) → R n base σ ⟨K.w, K.F, base, σ⟩
theorem expC_sound {K : Ctx} {S : St} (oi : OInv K (obj S.o)) {acc acc' : List Nat × List (List C)} {pl : Nat → Option (Nat × Nat)} {x x' : T} {ty : Option Nat} {u : Value} (hI : ExpInv K S acc pl) (r : RT K x u) (h : expC S acc x ty = some (x', acc'.1, acc'.2)) :
    Out K S acc acc' pl fun n base σ K2 => RT K2 (liftC n x') u := by
  unfold expC at h
  split at h
  · rename_i o off n sz cap
    split at h
    · rename_i l g gen ho
      split at h
      · simp at h
      · rename_i hng
        simp only [Option.some.injEq, Prod.mk.injEq] at h
        obtain ⟨rfl, e1, e2⟩ := h
        simp only [RT] at r
        obtain ⟨A, c, rfl, hc, _, hp⟩ := r
        have hng' : g ∉ acc.1 := by simpa [List.contains_iff_mem] using hng
        -- the new row's place
        have place : ∃ q : Option (Nat × Nat), ((q = none ∧ rowAt l off (n * sz) = [] ∧ c = 0) ∨ ∃ b sh cs e, q = some (b, sh + off) ∧ ¬ K.F b ∧ K.base ≤ b ∧ K.w.heap[b]? = some (.cells cs e (0, 0)) ∧ RCs K.w K.F b (sh + off) (rowAt l off (n * sz)) ∧ K.σ o = some (some (b, sh)) ∧ A = some ⟨b, sh + off, none⟩ ∧ sh + off + c * sz ≤ cs.size) := by
          rcases hp with ⟨rfl, _⟩ | ⟨b, sh, hs, hA, cs, ee, fr, hh, hroom⟩
          · exact ⟨none, .inl ⟨rfl, by rw [show n = 0 by omega, Nat.zero_mul, rowAt_zero], rfl⟩⟩
          · have hro := oi.objs o _ _ ho hs
            simp only [RO] at hro
            rcases hro with ⟨q, _⟩ | ⟨b', sh', cs', et, q1, q2, q3, q4, q5⟩
            · simp at q
            · obtain ⟨rfl, rfl⟩ := Prod.mk.inj (Option.some.inj q1)
              rw [q4] at hh
              simp only [Option.some.injEq, Obj.cells.injEq] at hh
              obtain ⟨rfl, rfl, rfl⟩ := hh
              exact ⟨some (b, sh + off), .inr ⟨b, sh, cs', et, rfl, q2, q3, q4, RCs_row q5 _ _, hs, hA, hroom⟩⟩
        obtain ⟨q, hq⟩ := place
        refine ⟨fun k => if k = acc.2.length then q else pl k, fun k hk => if_neg (by omega), ⟨?_, ?_⟩, by rw [← e2]; simp, ?_⟩
        · intro k l' hl'
          rw [← e2] at hl'
          rw [← e1]
          by_cases hk : k < acc.2.length
          · rw [List.getElem?_append_left hk] at hl'
            simp only [if_neg (show ¬ k = acc.2.length by omega)]
            refine (hI.rows k l' hl').imp id ?_
            rintro ⟨b, sh, cs, e, h1, h2, h3, h4, h5, o', l0, g', gen', sh0, h6, h7, h8⟩
            exact ⟨b, sh, cs, e, h1, h2, h3, h4, h5, o', l0, g', gen', sh0, h6, by simp [h7], h8⟩
          · rw [List.getElem?_append_right (by omega)] at hl'
            have hk' : k = acc.2.length := by
              rcases Nat.lt_or_ge (k - acc.2.length) 1 with h' | h'
              · omega
              · rw [List.getElem?_eq_none (by simpa using h')] at hl'; simp at hl'
            subst hk'
            simp at hl'; subst hl'
            simp only [if_true]
            rcases hq with ⟨h1, h2, _⟩ | ⟨b, sh, cs, e, h1, h2, h3, h4, h5, h6, _⟩
            · exact .inl ⟨h1, h2⟩
            · exact .inr ⟨b, _, cs, e, h1, h2, h3, h4, h5, o, l, g, gen, sh, ho, by simp, h6⟩
        · intro i j b sh sh' hi hj h1 h2
          rw [← e2] at hi hj
          simp at hi hj
          have key : ∀ i sh, i < acc.2.length → pl i = some (b, sh) → ∀ sh', q = some (b, sh') → False := by
            intro i sh hi h1 sh' h2
            obtain ⟨li, hli⟩ : ∃ li, acc.2[i]? = some li := ⟨_, List.getElem?_eq_getElem hi⟩
            rcases hI.rows i li hli with ⟨h3, _⟩ | ⟨b', sh2, cs, e, h3, _, _, _, _, o', l0, g', gen', sh0, h6, h7, h8⟩
            · rw [h3] at h1; simp at h1
            · rw [h3] at h1; simp at h1; obtain ⟨rfl, rfl⟩ := h1
              rcases hq with ⟨q1, _⟩ | ⟨b2, sh3, cs, e, q1, _, _, _, _, q6, _⟩
              · rw [q1] at h2; simp at h2
              · rw [q1] at h2; simp at h2; obtain ⟨rfl, rfl⟩ := h2
                rcases oi.alias o o' _ _ b2 sh3 sh0 ho h6 q6 h8 with rfl | hal
                · rw [ho] at h6; simp at h6; exact hng' (h6.2.1 ▸ h7)
                · simp only [Alias] at hal; exact hng' (hal.1 ▸ h7)
          by_cases hi' : i = acc.2.length
          · by_cases hj' : j = acc.2.length
            · omega
            · simp only [if_pos hi'] at h1
              simp only [if_neg hj'] at h2
              exact (key j sh' (by omega) h2 _ h1).elim
          · simp only [if_neg hi'] at h1
            by_cases hj' : j = acc.2.length
            · simp only [if_pos hj'] at h2
              exact (key i sh (by omega) h1 _ h2).elim
            · simp only [if_neg hj'] at h2
              exact hI.apart i j b sh sh' (by omega) (by omega) h1 h2
        · intro n' base σ hσ
          simp only [liftC, RT]
          refine ⟨A, c, rfl, hc, fun k hk => by simp at hk, ?_⟩
          have hs := hσ acc.2.length (by rw [← e2]; simp)
          simp only [if_true] at hs
          rcases hq with ⟨h1, _, h3⟩ | ⟨b, sh, cs, e, h1, h2, h3, h4, h5, h6, h7, h8⟩
          · exact .inl ⟨h3, _, hs⟩
          · rw [h1] at hs
            exact .inr ⟨b, sh + off, hs, h7, cs, e, _, h4, by simpa using h8⟩
    · rename_i l ho
      simp only [Option.some.injEq, Prod.mk.injEq] at h
      obtain ⟨rfl, e1, e2⟩ := h
      obtain rfl : acc' = acc := Prod.ext e1.symm e2.symm
      refine ⟨pl, fun k _ => rfl, hI, Nat.le_refl _, fun n' base σ _ => ?_⟩
      simp only [RT] at r
      obtain ⟨A, c, rfl, hc, _, hp⟩ := r
      simp only [liftC, RT, RC]
      refine ⟨A, c, rfl, hc, fun k hk => by simp at hk, ?_⟩
      rcases hp with ⟨rfl, _⟩ | ⟨b, sh, hs, hA, cs, ee, fr, hh, hroom⟩
      · exact .inl ⟨by omega, by rw [show n = 0 by omega, Nat.zero_mul, rowAt_zero]⟩
      · have hro := oi.objs o _ _ ho hs
        simp only [RO] at hro
        rcases hro with ⟨q, _⟩ | ⟨b', sh', q1, q2, q3⟩
        · simp at q
        · obtain ⟨rfl, rfl⟩ := Prod.mk.inj (Option.some.inj q1)
          exact .inr ⟨b, _, hA, q2, RCs_row q3 _ _⟩
    · simp at h
  · rename_i sz
    simp only [Option.some.injEq, Prod.mk.injEq] at h
    obtain ⟨rfl, e1, e2⟩ := h
    simp only [RT, RC] at r
    obtain ⟨A, c, rfl, hc, hex, hp⟩ := r
    obtain rfl := hex 0 rfl
    refine ⟨fun k => if k = acc.2.length then none else pl k, fun k hk => if_neg (by omega), ⟨?_, ?_⟩, by rw [← e2]; simp, ?_⟩
    · intro k l' hl'
      rw [← e2] at hl'
      rw [← e1]
      by_cases hk : k < acc.2.length
      · rw [List.getElem?_append_left hk] at hl'
        simp only [if_neg (show ¬ k = acc.2.length by omega)]
        exact hI.rows k l' hl'
      · rw [List.getElem?_append_right (by omega)] at hl'
        have hk' : k = acc.2.length := by
          rcases Nat.lt_or_ge (k - acc.2.length) 1 with h' | h'
          · omega
          · rw [List.getElem?_eq_none (by simpa using h')] at hl'; simp at hl'
        subst hk'
        simp at hl'; subst hl'
        exact .inl ⟨by simp, rfl⟩
    · intro i j b sh sh' hi hj h1 h2
      rw [← e2] at hi hj
      simp at hi hj
      by_cases hi' : i = acc.2.length
      · simp [hi'] at h1
      · by_cases hj' : j = acc.2.length
        · simp [hj'] at h2
        · simp only [if_neg hi'] at h1
          simp only [if_neg hj'] at h2
          exact hI.apart i j b sh sh' (by omega) (by omega) h1 h2
    · intro n' base σ hσ
      simp only [liftC, RT]
      have hs := hσ acc.2.length (by rw [← e2]; simp)
      exact ⟨A, 0, rfl, Nat.le_refl _, fun k hk => by simp at hk, .inl ⟨rfl, _, hs⟩⟩
  · simp only [Option.some.injEq, Prod.mk.injEq] at h
    obtain ⟨rfl, e1, e2⟩ := h
    obtain rfl : acc' = acc := Prod.ext e1.symm e2.symm
    exact ⟨pl, fun k _ => rfl, hI, Nat.le_refl _, fun n' base σ _ => by simp only [liftC, RT] at r ⊢; exact r⟩
  · simp at h

theorem Out.then {K : Ctx} {S : St} {acc acc1 acc2 : List Nat × List (List C)} {pl : Nat → Option (Nat × Nat)} {R1 R2 R : (Nat → Nat → (Nat → Option (Option (Nat × Nat))) → Ctx → Prop)} (h1 : Out K S acc acc1 pl R1) (h2 : ∀ pl1, ExpInv K S acc1 pl1 → Out K S acc1 acc2 pl1 R2)
    (h : ∀ n base σ K2, R1 n base σ K2 → R2 n base σ K2 → R n base σ K2) : Out K S acc acc2 pl R := by
  obtain ⟨pl1, a1, a2, a3, a4⟩ := h1
  obtain ⟨pl2, b1, b2, b3, b4⟩ := h2 pl1 a2
  exact ⟨pl2, fun k hk => (b1 k (by omega)).trans (a1 k hk), b2, by omega, fun n base σ hσ => h _ _ _ _ (a4 n base σ fun k hk => by rw [hσ k (by omega), b1 k hk]) (b4 n base σ hσ)⟩
theorem Out.mono {K : Ctx} {S : St} {acc acc1 : List Nat × List (List C)} {pl : Nat → Option (Nat × Nat)} {R1 R : (Nat → Nat → (Nat → Option (Option (Nat × Nat))) → Ctx → Prop)} (h1 : Out K S acc acc1 pl R1)
    (h : ∀ n base σ K2, R1 n base σ K2 → R n base σ K2) : Out K S acc acc1 pl R := by
  obtain ⟨pl1, a1, a2, a3, a4⟩ := h1
  exact ⟨pl1, a1, a2, a3, fun n base σ hσ => h _ _ _ _ (a4 n base σ hσ)⟩
theorem expL_sound {K : Ctx} {S : St} (oi : OInv K (obj S.o)) : ∀ {l l' : List T} {ts : List (Option Nat)} {acc acc' : List Nat × List (List C)} {pl : Nat → Option (Nat × Nat)} {us : List Value}, ExpInv K S acc pl → RTs K l us → expL S l ts acc = some (l', acc'.1, acc'.2) →
    Out K S acc acc' pl fun n base σ K2 => RTs K2 (l'.map (liftC n)) us
  | [], l', ts, acc, acc', pl, us, hI, r, h => by
    simp only [expL, Option.some.injEq, Prod.mk.injEq] at h
    obtain ⟨rfl, e1, e2⟩ := h
    obtain rfl : acc' = acc := Prod.ext e1.symm e2.symm
    exact ⟨pl, fun k _ => rfl, hI, Nat.le_refl _, fun n base σ _ => by simp only [RTs, List.map_nil] at r ⊢; exact r⟩
  | x :: l, l', ts, acc, acc', pl, us, hI, r, h => by
    simp only [expL] at h
    obtain ⟨a1, h1, h⟩ := Option.bind_eq_some_iff.1 h
    obtain ⟨b1, h2, h3⟩ := Option.map_eq_some_iff.1 h
    simp only [Prod.mk.injEq] at h3
    obtain ⟨rfl, h3⟩ := h3
    simp only [RTs] at r
    obtain ⟨u, vs, rfl, r1, r2⟩ := r
    obtain ⟨l1, q⟩ := b1
    simp only at h3
    subst h3
    refine (expC_sound oi (acc' := a1.2) hI r1 h1).then (fun pl1 hI1 => expL_sound oi (acc' := acc') hI1 r2 h2) fun n base σ K2 q1 q2 => ?_
    simp only [List.map_cons, RTs]
    exact ⟨u, vs, rfl, q1, q2⟩
theorem expA_sound {K : Ctx} {S : St} (oi : OInv K (obj S.o)) {acc acc' : List Nat × List (List C)} {pl : Nat → Option (Nat × Nat)} {x x' : T} {ts : List (Option Nat)} {u : Value} (hI : ExpInv K S acc pl) (r : RT K x u) (h : expA S acc x ts = some (x', acc'.1, acc'.2)) :
    Out K S acc acc' pl fun n base σ K2 => RT K2 (liftA n x') u := by
  unfold expA at h
  split at h
  · obtain ⟨a1, h1, h2⟩ := Option.map_eq_some_iff.1 h
    simp only [Prod.mk.injEq] at h2
    obtain ⟨rfl, h2⟩ := h2
    simp only [RT] at r
    obtain ⟨cs, rfl, r⟩ := r
    refine (expL_sound oi (acc' := acc') hI r (by rw [h1]; congr 1; exact Prod.ext rfl h2)).mono fun n base σ K2 q => ?_
    simp only [liftA, RT]
    exact ⟨cs, rfl, q⟩
  · rename_i hne
    refine (expC_sound oi (acc' := acc') hI r h).mono fun n base σ K2 q => ?_
    have : ∀ y, x' ≠ .agg y := by
      intro y e
      subst e
      unfold expC at h
      split at h
      · split at h
        · split at h <;> simp at h
        · simp at h
        · simp at h
      · simp at h
      · simp at h
      · simp at h
    cases x' <;> first | exact q | exact absurd rfl (this _)
theorem expT_sound {K : Ctx} {S : St} (oi : OInv K (obj S.o)) : ∀ {l l' : List T} {ts : List (List (Option Nat))} {acc : List Nat × List (List C)} {ls : List (List C)} {us : List Value}, RTs K l us → expT S l ts acc = some (l', ls) →
    ∃ gs, ∀ pl, ExpInv K S acc pl → Out K S acc (gs, ls) pl fun n base σ K2 => RTs K2 (l'.map (liftA n)) us
  | [], l', ts, acc, ls, us, r, h => by
    simp only [expT, Option.some.injEq, Prod.mk.injEq] at h
    obtain ⟨rfl, rfl⟩ := h
    exact ⟨acc.1, fun pl hI => ⟨pl, fun k _ => rfl, hI, Nat.le_refl _, fun n base σ _ => by simp only [RTs, List.map_nil] at r ⊢; exact r⟩⟩
  | x :: l, l', ts, acc, ls, us, r, h => by
    simp only [expT] at h
    obtain ⟨a1, h1, h⟩ := Option.bind_eq_some_iff.1 h
    obtain ⟨⟨l1, ls1⟩, h2, h3⟩ := Option.map_eq_some_iff.1 h
    simp only [Prod.mk.injEq] at h3
    obtain ⟨rfl, rfl⟩ := h3
    simp only [RTs] at r
    obtain ⟨u, vs, rfl, r1, r2⟩ := r
    obtain ⟨gs, hrest⟩ := expT_sound oi r2 h2
    refine ⟨gs, fun pl hI => (expA_sound oi (acc' := a1.2) hI r1 h1).then hrest fun n base σ K2 q1 q2 => ?_⟩
    simp only [List.map_cons, RTs]
    exact ⟨u, vs, rfl, q1, q2⟩
theorem expC_notup {S : St} {acc : List Nat × List (List C)} {x : T} {ty : Option Nat} {r : T × List Nat × List (List C)} (h : expC S acc x ty = some r) : ∀ l, r.1 ≠ .tup l := by
  intro y e
  unfold expC at h
  split at h
  · split at h
    · split at h
      · simp at h
      · obtain rfl := Option.some.inj h; simp at e
    · obtain rfl := Option.some.inj h; simp at e
    · simp at h
  · obtain rfl := Option.some.inj h; simp at e
  · obtain rfl := Option.some.inj h; simp at e
  · simp at h
theorem expT_notup {S : St} : ∀ {l l' : List T} {ts : List (List (Option Nat))} {acc : List Nat × List (List C)} {ls : List (List C)}, expT S l ts acc = some (l', ls) → ∀ x ∈ l', ∀ y, x ≠ .tup y
  | [], l', ts, acc, ls, h => by simp only [expT, Option.some.injEq, Prod.mk.injEq] at h; obtain ⟨rfl, rfl⟩ := h; simp
  | x :: l, l', ts, acc, ls, h => by
    simp only [expT] at h
    obtain ⟨a1, h1, h⟩ := Option.bind_eq_some_iff.1 h
    obtain ⟨⟨l1, ls1⟩, h2, h3⟩ := Option.map_eq_some_iff.1 h
    simp only [Prod.mk.injEq] at h3
    obtain ⟨rfl, rfl⟩ := h3
    intro z hz y
    rcases List.mem_cons.1 hz with rfl | hz
    · unfold expA at h1
      split at h1
      · obtain ⟨a2, _, rfl⟩ := Option.map_eq_some_iff.1 h1; simp
      · exact expC_notup h1 y
    · exact expT_notup h2 z hz y
/-- The results, laid out. -/
theorem retT_sound {P : Program} {w0 : World} {F0 : Nat → Prop} {K : Ctx} {S : St} {a : Act} {fn : Func} {m : Nat} (h : Inv m w0 F0 K S a) {r : R} (hr : retT P fn.results.toList fn.resultTypes.toList S = some r) :
    ∃ v, (results fn a.tmps).run P K.w = .ok v K.w ∧ ResOK F0 w0 K.w r.1 r.2 v := by
  unfold retT at hr
  obtain ⟨l, h1, hr⟩ := Option.bind_eq_some_iff.1 hr
  obtain ⟨ts, h2, hr⟩ := Option.bind_eq_some_iff.1 hr
  obtain ⟨⟨l', ls⟩, h3, rfl⟩ := Option.map_eq_some_iff.1 hr
  obtain ⟨hl, hg⟩ := mapO_get h1
  have hex : ∀ (i : Nat) (rv : ResultVar), fn.results.toList[i]? = some rv → ∃ u, (resSem a.tmps rv).run P K.w = .ok u K.w ∧ ∃ x, l[i]? = some x ∧ RT K x u := fun i rv hi => by
    obtain ⟨x, hx, hf⟩ := hg i rv hi
    obtain ⟨u, hu, r⟩ := resT_sound h hf
    exact ⟨u, hu, x, hx, r⟩
  have hus : ∃ us : List Value, us.length = fn.results.toList.length ∧ ∀ (i : Nat) (rv : ResultVar) (u : Value), fn.results.toList[i]? = some rv → us[i]? = some u → (resSem a.tmps rv).run P K.w = .ok u K.w ∧ ∃ x, l[i]? = some x ∧ RT K x u := by
    have : ∀ (rs : List ResultVar) (k : Nat), (∀ (i : Nat) (rv : ResultVar), rs[i]? = some rv → ∃ u, (resSem a.tmps rv).run P K.w = .ok u K.w ∧ ∃ x, l[k + i]? = some x ∧ RT K x u) →
        ∃ us : List Value, us.length = rs.length ∧ ∀ (i : Nat) (rv : ResultVar) (u : Value), rs[i]? = some rv → us[i]? = some u → (resSem a.tmps rv).run P K.w = .ok u K.w ∧ ∃ x, l[k + i]? = some x ∧ RT K x u := by
      intro rs
      induction rs with
      | nil => intro k _; exact ⟨[], rfl, fun i rv u hi => by simp at hi⟩
      | cons rv rs ih =>
        intro k hh
        obtain ⟨u, hu⟩ := hh 0 rv rfl
        obtain ⟨us, h1, h2⟩ := ih (k + 1) fun i rv hi => by have := hh (i + 1) rv (by simpa using hi); rw [show k + (i + 1) = k + 1 + i by omega] at this; exact this
        refine ⟨u :: us, by simp [h1], fun i rv' u' hi hu' => ?_⟩
        cases i with
        | zero => simp at hi hu'; subst hi; subst hu'; exact hu
        | succ i => have := h2 i rv' u' (by simpa using hi) (by simpa using hu'); rw [show k + 1 + i = k + (i + 1) by omega] at this; exact this
    have := this fn.results.toList 0 fun i rv hi => by simpa using hex i rv hi
    simpa using this
  obtain ⟨us, hu1, hu2⟩ := hus
  have rl : RTs K l us := RTs_mk _ _ (by rw [hu1, hl]) fun i x u hx hu => by
    obtain ⟨rv, hrv⟩ : ∃ rv, fn.results.toList[i]? = some rv := by
      have : i < fn.results.toList.length := by rw [← hl]; rcases Nat.lt_or_ge i l.length with h' | h'; exact h'; simp [h'] at hx
      exact ⟨_, List.getElem?_eq_getElem this⟩
    obtain ⟨_, x', hx', r⟩ := hu2 i rv u hrv hu
    rw [hx] at hx'; obtain rfl := Option.some.inj hx'
    exact r
  have hrun := results_run (P := P) fn a.tmps (w := K.w) hu1 fun i rv u hi hu => (hu2 i rv u hi hu).1
  refine ⟨_, hrun, ?_⟩
  obtain ⟨gs, hT⟩ := expT_sound h.oi rl h3
  obtain ⟨pl, _, hI, _, hR⟩ := hT (fun _ => none) ⟨fun k l hk => by simp at hk, fun i j b sh sh' hi => by simp at hi⟩
  refine ⟨K.F, pl, h.Fin, fun b hb => (h.Fout b hb).imp id fun hge => ⟨hge, h.good.F b hb⟩, fun n base σ hσ => ?_, fun k l hk => ?_, fun i j b sh sh' hi hj => hI.apart i j b sh sh' hi hj⟩
  · have q := hR n base σ hσ
    match l', us, q with
    | [], us, q => simp only [List.map_nil, RTs] at q; subst q; simp only [lift, packV, RT, List.map_nil]; exact ⟨[], rfl, by simp only [RTs]⟩
    | [x], us, q =>
      simp only [List.map_cons, List.map_nil, RTs] at q
      obtain ⟨u, vs, rfl, q1, rfl⟩ := q
      simp only [packV]
      have hn := expT_notup h3 x (by simp)
      cases x <;> first | exact q1 | exact absurd rfl (hn _)
    | x :: y :: l', us, q =>
      have q' := q
      simp only [List.map_cons, RTs] at q'
      obtain ⟨u, vs, rfl, _, u', vs', rfl, _⟩ := q'
      simp only [lift, packV, RT]
      exact ⟨_, rfl, q⟩
  · rcases hI.rows k l hk with h1 | ⟨b, sh, cs, e, h1, h2, h3, h4, h5, _⟩
    · exact .inl h1
    · exact .inr ⟨b, sh, cs, e, h1, h2, by rw [← h.base]; exact h3, h4, h5⟩

theorem params_get : ∀ (i : Nat) (xs : List T) (t : Nat), get (params i xs) t = if i ≤ t then (xs[t - i]?).getD .junk else .junk
  | i, [], t => by simp [params, get]
  | i, x :: xs, t => by
    simp only [params, get]
    by_cases h : i = t
    · subst h; simp
    · rw [if_neg h, params_get (i + 1) xs t]
      by_cases h' : i + 1 ≤ t
      · rw [if_pos h', if_pos (by omega), show t - i = (t - (i + 1)) + 1 by omega]; simp
      · rw [if_neg h', if_neg (by omega)]
theorem runF_sound {O : Ora} (hm : E.P.follows .mixedOrders = true) (hcl : CallOK E.P O.call) {f : FuncId} {fn : Func} (hf : E.P.funcs[f]? = some fn)
    (hlp : okFuncN (E.nd f) fn = true → ∀ body, fn.body = some body → ∀ w0 F0, LoopOK E fn.ntmps w0 F0 body (O.loop f)) {xs : List T} {r : R} (h : runF E O f fn xs = some r) :
    CallsR E.P f xs r := by
  unfold runF at h
  split at h
  · simp at h
  · rename_i body hb
    split at h
    · rename_i hlenok
      obtain ⟨hlen, hok⟩ := hlenok
      have hok' := hok
      unfold okFuncN at hok'
      rw [hb] at hok'
      simp only [Bool.and_eq_true, Bool.not_eq_true'] at hok'
      obtain ⟨hname, hcode, hnd⟩ := hok'
      refine ⟨⟨fn, hf, hname, by rw [hb]; rfl⟩, fun w F us hF hr => ?_⟩
      have hul := RTs_length _ _ hr
      have hI : Inv fn.ntmps w F ⟨w, F, w.heap.size, fun _ => none⟩ ⟨params 0 xs, [], 0⟩ { tmps := us.toArray ++ Array.replicate (fn.ntmps - us.toArray.size) undef, defers := [] } := {
        good := ⟨hF, Nat.le_refl _⟩
        base := rfl
        below := Below.refl _ _
        Fin := fun _ h => h
        Fout := fun _ h => .inl h
        size := by simp; omega
        defers := rfl
        tm := fun t => by
          show RT _ (get (params 0 xs) t) _
          rw [params_get]
          simp only [Nat.zero_le, if_true, Nat.sub_zero]
          cases hx : xs[t]? with
          | none => simp only [Option.getD_none, RT]
          | some x =>
            obtain ⟨u, hu, r⟩ := RTs_get _ _ _ _ hr hx
            have hlt : t < us.length := by rcases Nat.lt_or_ge t us.length with h' | h'; exact h'; simp [h'] at hu
            simp only [Option.getD_some, Array.getD_eq_getD_getElem?]
            rw [Array.getElem?_append_left (by simpa using hlt)]
            simp only [List.getElem?_toArray, hu, Option.getD_some]
            exact r
        oi := ⟨fun o x s h => by simp [obj] at h, fun o x h => by simp [obj] at h, fun o o' x x' b sh sh' h => by simp [obj] at h⟩
        fresh := fun _ _ => rfl
        grp := fun o l g e h => by simp [obj] at h }
      have fin : ∀ (e : Ex) (S : St), te E O f body ⟨params 0 xs, [], 0⟩ = some (e, S) → retT E.P fn.results.toList fn.resultTypes.toList S = some r → (e = .nor ∨ e = .ret) →
          Calls E.P f us.toArray w fun e w' => ∃ v, e = .returned v ∧ Below w.heap.size w w' ∧ ResOK F w w' r.1 r.2 v := by
        intro e S he hS hee
        refine calls_of_wp hf hb (te_sound hm hcl (f := f) (body := body) (hlp hok body hb w F) hnd body (fun b hb => hb) hcode _ e S he _ _ hI _ fun K' a' hi => ?_)
        obtain ⟨v, hrun, hres⟩ := retT_sound hi hS
        rcases hee with rfl | rfl
        · exact ⟨hi.defers, v, hrun, v, rfl, hi.below, hres⟩
        · exact ⟨hi.defers, v, hrun, v, rfl, hi.below, hres⟩
      split at h
      · rename_i S he; exact fin .nor S he h (.inl rfl)
      · rename_i S he; exact fin .ret S he h (.inr rfl)
      · simp at h
    · simp at h
/-- THE WHOLE: what the evaluator returns, with however many rounds, is what a call of the program returns. -/
theorem ora_sound (hm : E.P.follows .mixedOrders = true) (hpr : CallOK E.P pr) : ∀ n, CallOK E.P (ora E pr n).call := by
  intro n
  induction n using Nat.strongRecOn with
  | _ n ih =>
    cases n with
    | zero => intro f ts r h; simp [ora] at h
    | succ n =>
      intro f ts r h
      simp only [ora] at h
      split at h
      · rename_i r' hp
        obtain rfl := Option.some.inj h
        exact hpr f ts r' hp
      · obtain ⟨fn, hf, h⟩ := Option.bind_eq_some_iff.1 h
        exact .inl (runF_sound hm (ih n (by omega)) hf (fun hk body hb w0 F0 => ora_loop hm hf hb hk n (fun k hk => ih k (by omega)) w0 F0) h)
end
end Go.Proofs.YtnbijiopcgfmfaaGreat.Tev
/- The evaluator without a count of rounds: what it returns for some count. Its own equations, and that it returns what a call returns. -/
namespace Go.Proofs.YtnbijiopcgfmfaaGreat.Tev
open Go Go.RowKit
set_option linter.unusedSectionVars false
set_option linter.unusedVariables false
set_option linter.unusedSimpArgs false
/-- Some answers of an oracle. -/
structure Ask where
  q : List (FuncId × List T × R)
  l : List (FuncId × Nat × St × (Ex × St))
def Ask.of (A : Ask) (O : Ora) : Prop := (∀ x ∈ A.q, O.call x.1 x.2.1 = some x.2.2) ∧ (∀ x ∈ A.l, O.loop x.1 x.2.1 x.2.2.1 = some x.2.2.2)
def Ask.add (A B : Ask) : Ask := ⟨A.q ++ B.q, A.l ++ B.l⟩
theorem Ask.of_add {A B : Ask} {O : Ora} : (A.add B).of O ↔ A.of O ∧ B.of O := by
  simp only [Ask.of, Ask.add, List.mem_append]
  constructor
  · rintro ⟨h1, h2⟩; exact ⟨⟨fun x h => h1 x (.inl h), fun x h => h2 x (.inl h)⟩, ⟨fun x h => h1 x (.inr h), fun x h => h2 x (.inr h)⟩⟩
  · rintro ⟨⟨h1, h2⟩, h3, h4⟩; exact ⟨fun x h => h.elim (h1 x) (h3 x), fun x h => h.elim (h2 x) (h4 x)⟩
/-- What needs but some answers. -/
def Few {α : Type} (g : Ora → Option α) : Prop := ∀ O r, g O = some r → ∃ A : Ask, A.of O ∧ ∀ O', A.of O' → g O' = some r
theorem Few.const {α : Type} (x : Option α) : Few fun _ => x := fun O r h => ⟨⟨[], []⟩, ⟨fun _ h => by simp at h, fun _ h => by simp at h⟩, fun _ _ => h⟩
theorem Few.bind {α β : Type} {g : Ora → Option α} {k : Ora → α → Option β} (hg : Few g) (hk : ∀ a, Few fun O => k O a) : Few fun O => (g O).bind (k O) := fun O r h => by
  obtain ⟨a, h1, h2⟩ := Option.bind_eq_some_iff.1 h
  obtain ⟨A, a1, a2⟩ := hg O a h1
  obtain ⟨B, b1, b2⟩ := hk a O r h2
  exact ⟨A.add B, Ask.of_add.2 ⟨a1, b1⟩, fun O' h' => by
    have h' := Ask.of_add.1 h'
    show (g O').bind (k O') = _
    rw [a2 O' h'.1]; exact b2 O' h'.2⟩
theorem Few.call (f : FuncId) (xs : List T) : Few fun O => O.call f xs := fun O r h => ⟨⟨[(f, xs, r)], []⟩, ⟨fun x hx => by simp at hx; subst hx; exact h, fun _ h => by simp at h⟩, fun O' h' => h'.1 (f, xs, r) (by simp)⟩
theorem Few.loop (f : FuncId) (id : Nat) (S : St) : Few fun O => O.loop f id S := fun O r h => ⟨⟨[], [(f, id, S, r)]⟩, ⟨fun _ h => by simp at h, fun x hx => by simp at hx; subst hx; exact h⟩, fun O' h' => h'.2 (f, id, S, r) (by simp)⟩
theorem Few.map {α β : Type} {g : Ora → Option α} (k : α → β) (hg : Few g) : Few fun O => (g O).map k := fun O r h => by
  obtain ⟨a, h1, h2⟩ := Option.map_eq_some_iff.1 h
  obtain ⟨A, a1, a2⟩ := hg O a h1
  exact ⟨A, a1, fun O' h' => by show (g O').map k = _; rw [a2 O' h']; exact congrArg some h2⟩
theorem Few.ite {α : Type} (p : Prop) [Decidable p] {g k : Ora → Option α} (hg : Few g) (hk : Few k) : Few fun O => if p then g O else k O := by
  by_cases h : p
  · simpa only [if_pos h] using hg
  · simpa only [if_neg h] using hk
theorem Few.bif {α : Type} (p : Bool) {g k : Ora → Option α} (hg : Few g) (hk : Few k) : Few fun O => bif p then g O else k O := by
  cases p
  · exact hk
  · exact hg
section
variable (E : Env)
theorem callT_few (S : St) (f : T) (xs : List T) : Few fun O => callT O.call S f xs := by
  unfold callT
  split
  · exact (Few.const _).bind fun a => (Few.const _).bind fun c => (Few.call _ _).map _
  · exact .const _
theorem opN_few (S : St) (o : Oper) : Few fun O => opN E O.call S o := by
  obtain ⟨d, op, ty, pos, af, gg⟩ := o
  cases op
  case call c =>
    obtain ⟨cal, args, ats⟩ := c
    cases cal with
    | value f => exact (callT_few S (S.ev f) (args.toList.map S.ev)).map fun x => (x.1, x.2, [])
    | builtin b => exact .const _
    | invoke => exact .const _
  all_goals exact .const _
theorem opA_few (dr : Bool) (S : St) (o : Oper) : Few fun O => opA E O.call dr S o := by
  unfold opA
  split
  · exact .const _
  · exact (opN_few E S o).bind fun r => .const _
theorem opG_few (dr : Bool) (ops : Array Oper) (S : St) (o : Oper) {k : Ora → St → Option St} (hk : ∀ S, Few fun O => k O S) : Few fun O => opG E O.call dr ops S o (k O) := by
  unfold opG
  split
  · exact (opA_few E dr S o).bind hk
  · split
    · exact .const _
    · split
      · exact .bif _ (.bif _ ((opA_few E dr _ o).bind hk) (hk _)) (.bif _ (hk _) ((opA_few E dr _ o).bind hk))
      · exact hk _
      · exact .const _
theorem tops_few (dr : Bool) (ops : Array Oper) : ∀ (l : List Oper) (S : St), Few fun O => tops E O.call dr ops l S
  | [], S => .const _
  | o :: l, S => opG_few E dr ops S o (tops_few dr ops l)
theorem te_few (f : FuncId) : ∀ (c : Code) (S : St), Few fun O => te E O f c S := by
  intro c
  induction c with
  | region id ops dr => intro S; exact (tops_few E dr ops ops.toList _).bind fun a => .const _
  | seq a b iha ihb =>
    intro S
    have : (fun O => te E O f (.seq a b) S) = fun O => (te E O f a S).bind fun r => match r with | (.nor, S) => te E O f b S | r => some r := by
      funext O
      simp only [te]
      cases te E O f a S with
      | none => rfl
      | some r => obtain ⟨e, S⟩ := r; cases e <;> rfl
    rw [this]
    refine (iha S).bind fun r => ?_
    obtain ⟨e, S'⟩ := r
    cases e with
    | nor => exact ihb S'
    | _ => exact .const _
  | cond c a b iha ihb =>
    intro S
    simp only [te]
    split
    · rename_i q _
      split
      · cases q <;> simp only [cond_true, cond_false] <;> first | exact iha _ | exact ihb _
      · cases q <;> simp only [cond_true, cond_false] <;> first | exact iha _ | exact ihb _
    · exact .const _
  | block id b ih =>
    intro S
    have : (fun O => te E O f (.block id b) S) = fun O => (te E O f b S).bind fun r => match r with | (.exit i, S) => if i = id then some (.nor, S) else some (.exit i, S) | r => some r := by
      funext O
      simp only [te]
      cases te E O f b S with
      | none => rfl
      | some r => obtain ⟨e, S⟩ := r; cases e <;> rfl
    rw [this]
    exact (ih S).bind fun r => .const _
  | loop b ih => intro S; exact .loop f _ S
  | _ => intro S; exact .const _
theorem runF_few (f : FuncId) (fn : Func) (xs : List T) : Few fun O => runF E O f fn xs := by
  have : (fun O => runF E O f fn xs) = fun O => fn.body.bind fun b => if xs.length ≤ fn.ntmps ∧ okFuncN (E.nd f) fn = true then (te E O f b ⟨params 0 xs, [], 0⟩).bind fun r => (match r with | (.nor, S) | (.ret, S) => retT E.P fn.results.toList fn.resultTypes.toList S | _ => none) else none := by
    funext O
    unfold runF
    cases fn.body with
    | none => rfl
    | some b =>
      dsimp only [Option.bind]
      split
      · cases te E O f b ⟨params 0 xs, [], 0⟩ with
        | none => rfl
        | some r => obtain ⟨e, S⟩ := r; cases e <;> rfl
      · rfl
  rw [this]
  exact (Few.const _).bind fun b => .ite _ ((te_few E f b _).bind fun r => .const _) (.const _)
theorem runL_few (f id : Nat) {again : Ora → St → Option (Ex × St)} (ha : ∀ S, Few fun O => again O S) (S : St) : Few fun O => runL E O f id (again O) S := by
  have : (fun O => runL E O f id (again O) S) = fun O => (focus (E.kp f id).1 (prep (E.own f id) S)).bind fun S => ((E.P.funcs[f]?).bind fun fn => fn.body.bind (findLoop id)).bind fun b => (te E O f b S).bind fun r => match r with
      | (.nor, S) => again O S
      | (.exit i, S) => (focus (E.kp f id).2 S).map fun S => (.exit i, S)
      | (.ret, S) => (focus (E.kr f) S).map fun S => (.ret, S) := by
    funext O
    unfold runL
    congr 1; funext S; congr 1; funext b
    cases te E O f b S with
    | none => rfl
    | some r => obtain ⟨e, S⟩ := r; cases e <;> rfl
  rw [this]
  refine (Few.const _).bind fun S => (Few.const _).bind fun b => (te_few E f b S).bind fun r => ?_
  obtain ⟨e, S'⟩ := r
  cases e with
  | nor => exact ha S'
  | _ => exact .const _
end
section
variable {E : Env} {pr : FuncId → List T → Option R}
def Le (O O' : Ora) : Prop := (∀ f xs r, O.call f xs = some r → O'.call f xs = some r) ∧ (∀ f id S r, O.loop f id S = some r → O'.loop f id S = some r)
theorem Few.le {α : Type} {g : Ora → Option α} (h : Few g) {O O' : Ora} (hl : Le O O') {r : α} (hr : g O = some r) : g O' = some r := by
  obtain ⟨A, a1, a2⟩ := h O r hr
  exact a2 O' ⟨fun x hx => hl.1 _ _ _ (a1.1 x hx), fun x hx => hl.2 _ _ _ _ (a1.2 x hx)⟩
theorem ora_le1 : ∀ n, Le (ora E pr n) (ora E pr (n + 1))
  | 0 => ⟨fun f xs r h => by simp [ora] at h, fun f id S r h => by simp [ora] at h⟩
  | n + 1 => by
    have ih := ora_le1 n
    refine ⟨fun f xs r h => ?_, fun f id S r h => ?_⟩
    · rw [ora] at h ⊢
      dsimp only at h ⊢
      cases h1 : pr f xs with
      | some r' => rw [h1] at h; exact h
      | none =>
        rw [h1] at h
        obtain ⟨fn, h2, h3⟩ := Option.bind_eq_some_iff.1 h
        show (E.P.funcs[f]?).bind _ = _
        rw [h2]
        exact (runF_few E f fn xs).le ih h3
    · rw [ora] at h ⊢
      dsimp only at h ⊢
      exact (runL_few E f id (again := fun O => O.loop f id) (fun S => .loop f id S) S).le ih h
theorem ora_le {m n : Nat} (h : m ≤ n) : Le (ora E pr m) (ora E pr n) := by
  induction h with
  | refl => exact ⟨fun _ _ _ h => h, fun _ _ _ _ h => h⟩
  | step _ ih => exact ⟨fun f xs r h => (ora_le1 _).1 _ _ _ (ih.1 f xs r h), fun f id S r h => (ora_le1 _).2 _ _ _ _ (ih.2 f id S r h)⟩
open Classical in
noncomputable def lim (E : Env) (pr : FuncId → List T → Option R) : Ora :=
  ⟨fun f xs => if h : ∃ r, ∃ n, (ora E pr n).call f xs = some r then some (Classical.choose h) else none,
   fun f id S => if h : ∃ r, ∃ n, (ora E pr n).loop f id S = some r then some (Classical.choose h) else none⟩
theorem lim_call {f : FuncId} {xs : List T} {r : R} : (lim E pr).call f xs = some r ↔ ∃ n, (ora E pr n).call f xs = some r := by
  unfold lim
  dsimp only
  constructor
  · intro h
    split at h
    · rename_i hh; obtain rfl := Option.some.inj h; exact Classical.choose_spec hh
    · simp at h
  · intro h
    have hh : ∃ r, ∃ n, (ora E pr n).call f xs = some r := ⟨r, h⟩
    rw [dif_pos hh]
    obtain ⟨n, hn⟩ := h
    obtain ⟨k, hk⟩ := Classical.choose_spec hh
    have h1 := (ora_le (Nat.le_max_left n k)).1 _ _ _ hn
    have h2 := (ora_le (Nat.le_max_right n k)).1 _ _ _ hk
    rw [h1] at h2; exact h2.symm
theorem lim_loop {f : FuncId} {id : Nat} {S : St} {r : Ex × St} : (lim E pr).loop f id S = some r ↔ ∃ n, (ora E pr n).loop f id S = some r := by
  unfold lim
  dsimp only
  constructor
  · intro h
    split at h
    · rename_i hh; obtain rfl := Option.some.inj h; exact Classical.choose_spec hh
    · simp at h
  · intro h
    have hh : ∃ r, ∃ n, (ora E pr n).loop f id S = some r := ⟨r, h⟩
    rw [dif_pos hh]
    obtain ⟨n, hn⟩ := h
    obtain ⟨k, hk⟩ := Classical.choose_spec hh
    have h1 := (ora_le (Nat.le_max_left n k)).2 _ _ _ _ hn
    have h2 := (ora_le (Nat.le_max_right n k)).2 _ _ _ _ hk
    rw [h1] at h2; exact h2.symm
theorem lim_ask {A : Ask} (h : A.of (lim E pr)) : ∃ n, A.of (ora E pr n) := by
  obtain ⟨q, l⟩ := A
  have hq : ∃ n, ∀ x ∈ q, (ora E pr n).call x.1 x.2.1 = some x.2.2 := by
    have := h.1
    dsimp only at this
    clear h
    induction q with
    | nil => exact ⟨0, fun x h => by simp at h⟩
    | cons x q ih =>
      obtain ⟨n, hn⟩ := ih fun y hy => this y (by simp [hy])
      obtain ⟨k, hk⟩ := lim_call.1 (this x (by simp))
      refine ⟨max n k, fun y hy => ?_⟩
      rcases List.mem_cons.1 hy with rfl | hy
      · exact (ora_le (Nat.le_max_right n k)).1 _ _ _ hk
      · exact (ora_le (Nat.le_max_left n k)).1 _ _ _ (hn y hy)
  have hl : ∃ n, ∀ x ∈ l, (ora E pr n).loop x.1 x.2.1 x.2.2.1 = some x.2.2.2 := by
    have := h.2
    dsimp only at this
    clear h hq
    induction l with
    | nil => exact ⟨0, fun x h => by simp at h⟩
    | cons x q ih =>
      obtain ⟨n, hn⟩ := ih fun y hy => this y (by simp [hy])
      obtain ⟨k, hk⟩ := lim_loop.1 (this x (by simp))
      refine ⟨max n k, fun y hy => ?_⟩
      rcases List.mem_cons.1 hy with rfl | hy
      · exact (ora_le (Nat.le_max_right n k)).2 _ _ _ _ hk
      · exact (ora_le (Nat.le_max_left n k)).2 _ _ _ _ (hn y hy)
  obtain ⟨n, hn⟩ := hq
  obtain ⟨k, hk⟩ := hl
  exact ⟨max n k, fun x hx => (ora_le (Nat.le_max_left n k)).1 _ _ _ (hn x hx), fun x hx => (ora_le (Nat.le_max_right n k)).2 _ _ _ _ (hk x hx)⟩
theorem Few.lim {α : Type} {g : Ora → Option α} (h : Few g) {r : α} (hr : g (Tev.lim E pr) = some r) : ∃ n, g (ora E pr n) = some r := by
  obtain ⟨A, a1, a2⟩ := h _ r hr
  obtain ⟨n, hn⟩ := lim_ask a1
  exact ⟨n, a2 _ hn⟩
/-- A function's answer. -/
theorem lim_fun {f : FuncId} {fn : Func} {xs : List T} {r : R} (hf : E.P.funcs[f]? = some fn) (hp : pr f xs = none) (h : runF E (lim E pr) f fn xs = some r) : (lim E pr).call f xs = some r := by
  obtain ⟨n, hn⟩ := (runF_few E f fn xs).lim h
  refine lim_call.2 ⟨n + 1, ?_⟩
  rw [ora]; dsimp only; rw [hp]; dsimp only; rw [hf]; exact hn
theorem lim_pr {f : FuncId} {xs : List T} {r : R} (hp : pr f xs = some r) : (lim E pr).call f xs = some r :=
  lim_call.2 ⟨1, by rw [ora]; dsimp only; rw [hp]⟩
/-- A loop's. -/
theorem lim_round {f id : Nat} {S : St} {r : Ex × St} (h : runL E (lim E pr) f id ((lim E pr).loop f id) S = some r) : (lim E pr).loop f id S = some r := by
  obtain ⟨n, hn⟩ := (runL_few E f id (again := fun O => O.loop f id) (fun S => .loop f id S) S).lim h
  exact lim_loop.2 ⟨n + 1, by rw [ora]; exact hn⟩
theorem lim_sound (hm : E.P.follows .mixedOrders = true) (hpr : CallOK E.P pr) : CallOK E.P (lim E pr).call := by
  intro f ts r h
  obtain ⟨n, hn⟩ := lim_call.1 h
  exact ora_sound hm hpr n f ts r hn
end
end Go.Proofs.YtnbijiopcgfmfaaGreat.Tev
/- What came in, opened as trees: an argument that can be read as data is the tree of what is read. Plain lemmas over any program. -/
set_option linter.unusedVariables false
namespace Go.Proofs.YtnbijiopcgfmfaaGreat.Tev
open Go Go.RowKit Go.ChangeShapes Go.WideShapes
set_option linter.unusedSectionVars false
set_option linter.unusedSimpArgs false
/-- The world as it is at the start: nothing that is there is written. -/
def Old (w : World) : Ctx := ⟨w, fun b => b < w.heap.size, w.heap.size, fun _ => none⟩
/-- Whatever reads as a value of type t is the tree of cells that I tells. -/
def Opn (P : Program) (w : World) (t : TypeId) (I : List C → Prop) : Prop :=
  ∀ (H : Type) (enc : TypeId × Value → H) (fuel : Nat) (cs : List Value) (x : DataW H × List MemPlace), DataW.trod enc P w 0 (fun _ => true) true fuel t cs = some x →
    (∀ n ∈ x.1.weights P t, n ≤ reachBytes) → ∃ l : List C, RTs (Old w) (l.map T.c) cs ∧ I l
variable {P : Program} {w : World}
theorem opn_int {t : TypeId} {k : IntKind} (ht : P.underlying t = some (.int k)) : Opn P w t (fun l => ∃ n, l = [.v (.int k n)] ∧ (Lit.int k n).wf = true) := by
  intro H enc fuel cs x h _
  obtain ⟨n, rfl, _, hw⟩ := DataW.trod_int ht h
  exact ⟨_, by simp only [List.map_cons, List.map_nil, RTs]; exact ⟨_, _, rfl, by simp only [RT, RC]; exact ⟨trivial, rfl⟩, rfl⟩, n, rfl, hw⟩
theorem opn_bool {t : TypeId} (ht : P.underlying t = some .bool) : Opn P w t (fun l => ∃ b, l = [.v (.bool b)]) := by
  intro H enc fuel cs x h _
  obtain ⟨b, rfl, _⟩ := DataW.trod_bool ht h
  exact ⟨_, by simp only [List.map_cons, List.map_nil, RTs]; exact ⟨_, _, rfl, by simp only [RT, RC]; exact ⟨trivial, rfl⟩, rfl⟩, b, rfl⟩
theorem opn_string {t : TypeId} (ht : P.underlying t = some .string) : Opn P w t (fun l => ∃ s, l = [.v (.string s)] ∧ s.size ≤ 140737488351232) := by
  intro H enc fuel cs x h hz
  obtain ⟨s, rfl, rfl, _⟩ := DataW.trod_string ht h
  refine ⟨_, by simp only [List.map_cons, List.map_nil, RTs]; exact ⟨_, _, rfl, by simp only [RT, RC]; exact ⟨trivial, rfl⟩, rfl⟩, s, rfl, ?_⟩
  have := hz s.data.toList.length (by simp [DataW.weights])
  simpa [reachBytes] using this
theorem opn_weights {H : Type} {e : TypeId} : ∀ {l : List (DataW H)} {d : DataW H}, d ∈ l → ∀ n ∈ d.weights P e, n ∈ DataW.weightsAll P e l
  | x :: r, d, hd, n, hn => by
    simp only [DataW.weightsAll, List.mem_append]
    rcases List.mem_cons.1 hd with rfl | hd
    · exact .inl hn
    · exact .inr (opn_weights hd n hn)
theorem opn_choose {β : Type} {p : Nat → β → Prop} (n : Nat) (h : ∀ i, i < n → ∃ y, p i y) : ∃ l : List β, l.length = n ∧ ∀ i y, l[i]? = some y → p i y := by
  induction n with
  | zero => exact ⟨[], rfl, fun i y hi => by simp at hi⟩
  | succ n ih =>
    obtain ⟨l, hl, hp⟩ := ih (fun i hi => h i (by omega))
    obtain ⟨y, hy⟩ := h n (by omega)
    refine ⟨l ++ [y], by simp [hl], fun i z hz => ?_⟩
    by_cases hi : i < n
    · rw [List.getElem?_append_left (by omega)] at hz
      exact hp i z hz
    · have : i = n := by
        have := (List.getElem?_eq_some_iff.1 hz).1
        simp at this
        omega
      subst this
      rw [List.getElem?_append_right (by omega), hl] at hz
      simp at hz
      subst hz
      exact hy
theorem RCs_append {F : Nat → Prop} {b : Nat} : ∀ (o : Nat) (l l' : List C), RCs w F b o l → RCs w F b (o + l.length) l' → RCs w F b o (l ++ l')
  | o, [], l', _, h => by simpa using h
  | o, x :: l, l', h, h' => by
    simp only [RCs, List.cons_append] at h ⊢
    exact ⟨h.1, RCs_append (o + 1) l l' h.2 (by simpa [Nat.add_assoc, Nat.add_comm 1] using h')⟩
/-- The cells of elements that lie one behind the other. -/
theorem RCs_flat {F : Nat → Prop} {b sz : Nat} : ∀ (o : Nat) (ls : List (List C)), (∀ (i : Nat) l, ls[i]? = some l → l.length = sz ∧ RCs w F b (o + i * sz) l) → RCs w F b o ls.flatten
  | o, [], _ => by simp only [List.flatten_nil, RCs]
  | o, l :: ls, h => by
    have h0 := h 0 l rfl
    rw [List.flatten_cons]
    refine RCs_append o l _ (by simpa using h0.2) (RCs_flat (sz := sz) _ ls fun i l' hl' => ?_)
    have h1 := h (i + 1) l' (by simpa using hl')
    exact ⟨h1.1, by rw [h0.1, show o + sz + i * sz = o + (i + 1) * sz by rw [Nat.add_mul]; omega]; exact h1.2⟩
theorem opn_slice {t e : TypeId} {I : List C → Prop} {B sz : Nat} (ht : P.underlying t = some (.slice e)) (he : Opn P w e I) (hc : P.cellsOf e = sz) (hs : 0 < sz) (hB : P.bytesOf e = B) :
    Opn P w t (fun l => ∃ ls : List (List C), l = [.s none ls.length ls.flatten] ∧ ls.length * B ≤ 140737488351232 ∧ ∀ x ∈ ls, I x) := by
  intro H enc fuel cs x h hz
  rcases DataW.trod_slice ht h with ⟨rfl, rfl⟩ | ⟨a, len, cap, elems, rest, n, _, rfl, rfl, hb, hl, hm, hlen, hel, hsp, hns⟩
  · refine ⟨_, ?_, [], rfl, by simp, fun x hx => by simp at hx⟩
    simp only [List.map_cons, List.map_nil, RTs]
    refine ⟨_, _, rfl, ?_, rfl⟩
    simp only [RT, RC]
    exact ⟨none, 0, rfl, Nat.le_refl _, fun k hk => by simp at hk, .inl ⟨rfl, rfl⟩⟩
  · have hw : (elems.length + rest.length) * B ≤ reachBytes := by
      have := hz ((elems.length + rest.length) * B) (by simp [DataW.weights, ht, hB])
      exact this
    have hin : ∀ i, i < len → ∃ l : List C, l.length = sz ∧ I l ∧ a.spot = none ∧ a.block < w.heap.size ∧ RCs w (fun b => b < w.heap.size) a.block (a.off + i * sz) l := by
      intro i hi
      have h1 := hel i hi
      obtain ⟨x, hx⟩ : ∃ x, elems[i]? = some x := ⟨elems[i]'(by omega), List.getElem?_eq_getElem (by omega)⟩
      rw [hx, Option.bind_eq_some_iff] at h1
      obtain ⟨c, hc1, hc2⟩ := h1
      obtain ⟨l, hr, hI⟩ := he H enc n c x hc2 (fun m hm' => hz m (by
        simp only [DataW.weights, ht, List.mem_cons, List.mem_append]
        exact .inr (.inl (opn_weights (List.mem_map_of_mem (List.mem_of_getElem? hx)) m hm'))))
      obtain ⟨_, hlen2, hcell⟩ := World.cells?_some hc1
      have hl2 : l.length = sz := by have := RTs_length _ _ hr; rw [List.length_map] at this; rw [← this, hlen2, hc]
      rw [hc] at hcell hlen2
      have spot : ∀ (a : Addr) u, w.cell? a = some u → a.spot = none ∧ a.block < w.heap.size := fun a u hu => by
        unfold World.cell? at hu
        split at hu
        · rename_i hh
          split at hu
          · simp at hu
          · rename_i hsn
            exact ⟨by simpa using hsn, heap_lt hh⟩
        · simp at hu
      have hz0 := hcell 0 hs
      rw [List.getElem?_eq_getElem (by omega)] at hz0
      have hblk : ∀ (a : Addr) m, (a.add m).block = a.block := fun a m => by unfold Addr.add; split <;> rfl
      have hfull : ∀ j, ((a.add (i * sz)).add j) = ⟨a.block, a.off + i * sz + j, if i * sz = 0 ∧ j = 0 then a.spot else none⟩ := fun j => by
        obtain ⟨ab, ao, as⟩ := a
        unfold Addr.add
        by_cases h1 : i * sz = 0 <;> by_cases h2 : j = 0 <;> simp [h1, h2]
      -- the address is a plain one if there is an element at all: its first cell shows it
      have hsp0 : a.spot = none ∧ a.block < w.heap.size := by
        have h1 := hel 0 (by omega)
        obtain ⟨x0, hx0⟩ : ∃ x, elems[0]? = some x := ⟨elems[0]'(by omega), List.getElem?_eq_getElem (by omega)⟩
        rw [hx0, Option.bind_eq_some_iff] at h1
        obtain ⟨c0, hc0, _⟩ := h1
        obtain ⟨_, hl0, hcell0⟩ := World.cells?_some hc0
        rw [hc] at hcell0 hl0
        have h2 := hcell0 0 hs
        rw [List.getElem?_eq_getElem (by omega)] at h2
        have h3 : (a.add (0 * sz)).add 0 = a := by unfold Addr.add; simp
        rw [h3] at h2
        exact spot a _ h2
      refine ⟨l, hl2, hI, hsp0.1, hsp0.2, RCs_of_get _ _ fun j y hj => ?_⟩
      have hjl : j < sz := by rcases Nat.lt_or_ge j l.length with h' | h'; omega; simp [h'] at hj
      have h2 := hcell j hjl
      rw [List.getElem?_eq_getElem (by omega), hfull j] at h2
      obtain ⟨u, hu, r⟩ := RTs_get _ _ j (.c y) hr (by simp [hj])
      rw [List.getElem?_eq_getElem (by omega)] at hu
      refine ⟨u, ?_, by simp only [RT] at r; exact r⟩
      rw [← hu, ← h2]
      congr 1
      split
      · rw [hsp0.1]
      · rfl
    obtain ⟨ls, hll, hlp⟩ := opn_choose len hin
    have hle : len * B ≤ 140737488351232 := Nat.le_trans (Nat.mul_le_mul_right _ (by omega)) hw
    subst hll
    refine ⟨_, ?_, ls, rfl, hle, fun x hx => ?_⟩
    · simp only [List.map_cons, List.map_nil, RTs]
      refine ⟨_, _, rfl, ?_, rfl⟩
      simp only [RT, RC]
      refine ⟨some a, cap, rfl, hl, fun k hk => by simp at hk, ?_⟩
      cases ls with
      | nil => exact .inl ⟨rfl, rfl⟩
      | cons l0 ls =>
        right
        have h0 := hlp 0 l0 rfl
        refine ⟨a.block, a.off, ?_, h0.2.2.2.1, RCs_flat (sz := sz) _ _ fun i l hl => ⟨(hlp i l hl).1, (hlp i l hl).2.2.2.2⟩⟩
        obtain ⟨ab, ao, as⟩ := a
        have := h0.2.2.1
        simp only at this
        subst this
        rfl
    · obtain ⟨i, hi⟩ := List.getElem?_of_mem hx
      exact (hlp i x hi).2.1
/-- The fields of a struct from the cell o on. -/
def OpnF (P : Program) (w : World) (fs : List Field) (o sz : Nat) (I : List C → Prop) : Prop :=
  ∀ (H : Type) (enc : TypeId × Value → H) (fuel : Nat) (cs : List Value) (xs : List (DataW H × List MemPlace)), xs.length = fs.length →
    (∀ (i : Nat) (f : Field), fs[i]? = some f → DataW.trod enc P w 0 (fun _ => true) true fuel f.type ((cs.drop f.offset).take (P.cellsOf f.type)) = xs[i]?) →
    (∀ n ∈ DataW.weightsEach P (fs.map (·.type)) (xs.map (·.1)), n ≤ reachBytes) → ∃ l : List C, RTs (Old w) (l.map T.c) ((cs.drop o).take sz) ∧ I l
theorem opnF_one {f : Field} {o sz : Nat} {I : List C → Prop} (h : Opn P w f.type I) (ho : f.offset = o) (hc : P.cellsOf f.type = sz) : OpnF P w [f] o sz I := by
  intro H enc fuel cs xs hl hx hz
  match xs, hl with
  | [x], _ =>
    have h1 := hx 0 f rfl
    rw [ho, hc] at h1
    exact h H enc fuel _ x h1 (fun n hn => hz n (by simp [DataW.weightsEach, hn]))
theorem opnF_cons {f : Field} {fs : List Field} {o sz sz2 : Nat} {I I2 : List C → Prop} (h : Opn P w f.type I) (ho : f.offset = o) (hc : P.cellsOf f.type = sz) (h2 : OpnF P w fs (o + sz) sz2 I2) :
    OpnF P w (f :: fs) o (sz + sz2) (fun l => ∃ l1 l2, l = l1 ++ l2 ∧ I l1 ∧ I2 l2) := by
  intro H enc fuel cs xs hl hx hz
  match xs, hl with
  | x :: r, hl =>
    have h1 := hx 0 f rfl
    rw [ho, hc] at h1
    obtain ⟨a, hK, hI⟩ := h H enc fuel _ x h1 (fun n hn => hz n (by simp [DataW.weightsEach, hn]))
    obtain ⟨b, hK2, hI2⟩ := h2 H enc fuel cs r (by simpa using hl) (fun i g hg => hx (i + 1) g (by simpa using hg)) (fun n hn => hz n (by simp only [List.map_cons, DataW.weightsEach, List.mem_append]; exact .inr hn))
    refine ⟨a ++ b, ?_, a, b, rfl, hI, hI2⟩
    rw [List.take_add, List.drop_drop, List.map_append]
    exact RTs_append hK hK2
theorem opn_struct {t : TypeId} {fs : Array Field} {sz : Nat} {I : List C → Prop} (ht : P.underlying t = some (.struct fs)) (h : OpnF P w fs.toList 0 sz I) (hc : P.cellsOf t = sz) : Opn P w t I := by
  intro H enc fuel cs x hx hz
  obtain ⟨xs, n, _, rfl, hl, hlen, hf⟩ := DataW.trod_struct ht hx
  obtain ⟨a, hK, hI⟩ := h H enc n cs xs (by simpa using hlen) (fun i g hg => hf i g (by simpa using hg)) (fun m hm => hz m (by simp only [DataW.weights, ht]; exact hm))
  refine ⟨a, ?_, hI⟩
  rw [List.drop_zero, List.take_of_length_le (by omega)] at hK
  exact hK
theorem opn_mono {t : TypeId} {I I' : List C → Prop} (h : Opn P w t I) (hi : ∀ l, I l → I' l) : Opn P w t I' := by
  intro H enc fuel cs x hx hz
  obtain ⟨a, hK, hI⟩ := h H enc fuel cs x hx hz
  exact ⟨a, hK, hi a hI⟩
/-- An argument, opened. -/
theorem arg_cells {H : Type} {enc : TypeId × Value → H} {t : TypeId} {I : List C → Prop} (h : Opn P w t I) {v : Value} {x : DataW H} {ps : List MemPlace} {ts : List TypeId} {ds : List (DataW H)} {j : Nat}
    (hr : DataW.Trod enc P w 0 (fun _ => true) true t v x ps) (hsz : (DataW.weightsEach P ts ds).all (· ≤ reachBytes) = true) (ht : ts[j]? = some t) (hd : ds[j]? = some x) : ∃ l : List C, RTs (Old w) (l.map T.c) v.cells.toList ∧ I l := by
  obtain ⟨fuel, hf⟩ := hr
  refine h H enc fuel _ (x, ps) hf (fun n hn => ?_)
  have := List.all_eq_true.1 hsz n (DataW.weights_mem_each ht hd n hn)
  simpa using this
theorem arg_agg {r : Reach} {b0 : Nat} {t : TypeId} {fs : Array Field} {v : Value} {l : List C} (ht : P.underlying t = some (.struct fs)) (hv : Value.okWide P w r b0 t v) (hl : RTs (Old w) (l.map T.c) v.cells.toList) : RT (Old w) (.agg (l.map T.c)) v := by
  obtain ⟨cs, rfl, _⟩ := okWide_struct ht hv
  simp only [RT]
  exact ⟨cs.toList, by simp, hl⟩
theorem arg_slice {r : Reach} {b0 : Nat} {t e : TypeId} {v : Value} {c : C} (ht : P.underlying t = some (.slice e)) (hv : Value.okWide P w r b0 t v) (hl : RTs (Old w) [.c c] v.cells.toList) : RT (Old w) (.c c) v := by
  obtain ⟨a, len, cap, rfl⟩ := okWide_slice ht hv
  simp only [RTs, Value.cells] at hl
  obtain ⟨u, vs, h1, h2, _⟩ := hl
  simp at h1
  rw [h1.1]; exact h2
theorem arg_int {r : Reach} {b0 : Nat} {t : TypeId} {k : IntKind} {v : Value} {c : C} (ht : P.underlying t = some (.int k)) (hv : Value.okWide P w r b0 t v) (hl : RTs (Old w) [.c c] v.cells.toList) : RT (Old w) (.c c) v := by
  obtain ⟨n, rfl⟩ := okWide_int ht hv
  simp only [RTs, Value.cells] at hl
  obtain ⟨u, vs, h1, h2, _⟩ := hl
  simp at h1
  rw [h1.1]; exact h2
theorem arg_str {r : Reach} {b0 : Nat} {t : TypeId} {v : Value} {c : C} (ht : P.underlying t = some .string) (hv : Value.okWide P w r b0 t v) (hl : RTs (Old w) [.c c] v.cells.toList) : RT (Old w) (.c c) v := by
  obtain ⟨n, rfl⟩ := okWide_string ht hv
  simp only [RTs, Value.cells] at hl
  obtain ⟨u, vs, h1, h2, _⟩ := hl
  simp at h1
  rw [h1.1]; exact h2
end Go.Proofs.YtnbijiopcgfmfaaGreat.Tev
