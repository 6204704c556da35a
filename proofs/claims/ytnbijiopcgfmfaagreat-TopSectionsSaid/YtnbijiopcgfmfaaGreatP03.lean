/- Part 3: TevInv, TevSeq, TevW, TevReg, TevAny. -/
import Derived.Test.YtnbijiopcgfmfaaGreatP02
import Derived.Tactics
/- What holds between a state and the world, from operation to operation. -/
namespace Go.Proofs.YtnbijiopcgfmfaaGreat.Tev
open Go Go.RowKit
set_option linter.unusedSectionVars false
set_option linter.unusedVariables false
set_option linter.unusedSimpArgs false

/-- Two objects in one block. -/
def Alias (x y : Ob) (sh sh' : Nat) : Prop :=
  match x, y with
  | .arr l g e, .arr l' g' e' => g = g' ∧ sh = sh' ∧ (e ≤ e' → 0 < e' → l.length ≤ l'.length) ∧ (e' ≤ e → 0 < e → l'.length ≤ l.length)
  | .fz _, .fz _ => True
  | .dead, _ => True
  | _, .dead => True
  | _, _ => False
theorem Alias.symm {x y : Ob} {sh sh' : Nat} (h : Alias x y sh sh') : Alias y x sh' sh := by
  cases x <;> cases y <;> simp_all [Alias]

structure OInv (K : Ctx) (ob : Nat → Option Ob) : Prop where
  objs : ∀ o x s, ob o = some x → K.σ o = some s → RO K s x
  dom : ∀ o x, ob o = some x → K.σ o ≠ none
  alias : ∀ o o' x x' b sh sh', ob o = some x → ob o' = some x' → K.σ o = some (some (b, sh)) → K.σ o' = some (some (b, sh')) → o = o' ∨ Alias x x' sh sh'

def frzs : List Nat → Ob → Ob
  | [], x => x
  | g :: r, x => frzs r (frz1 g x)
theorem obj_frzG (g : Nat) : ∀ (l : List (Nat × Ob)) (o : Nat), obj (frzG g l) o = (obj l o).map (frz1 g)
  | [], o => rfl
  | (k, x) :: l, o => by simp only [frzG, obj]; split <;> simp [obj_frzG g l o]
theorem obj_frzGs : ∀ (fz : List Nat) (l : List (Nat × Ob)) (o : Nat), obj (frzGs fz l) o = (obj l o).map (frzs fz)
  | [], l, o => by cases h : obj l o <;> simp [frzGs, frzs, h]
  | g :: r, l, o => by
    simp only [frzGs]
    rw [obj_frzGs r, obj_frzG]
    cases obj l o <;> rfl
theorem obj_addO (n : Nat) : ∀ (nw : List Ob) (l : List (Nat × Ob)) (o : Nat), obj (addO n nw ++ l) o = if n ≤ o ∧ o < n + nw.length then nw[o - n]? else obj l o := by
  intro nw
  induction nw generalizing n with
  | nil => intro l o; simp [addO]; intro h h'; omega
  | cons x nw ih =>
    intro l o
    simp only [addO, List.cons_append, obj]
    by_cases h : n = o
    · subst h; simp
    · rw [if_neg h, ih (n + 1) l o]
      by_cases h' : n + 1 ≤ o ∧ o < n + 1 + nw.length
      · rw [if_pos h', if_pos (by simp; omega), show o - n = (o - (n + 1)) + 1 by omega]; simp
      · rw [if_neg h', if_neg (by simp; omega)]
theorem frzs_arr : ∀ (fz : List Nat) (l : List C) (g e : Nat), frzs fz (.arr l g e) = if g ∈ fz then .fz l else .arr l g e
  | [], l, g, e => by simp [frzs]
  | h :: r, l, g, e => by
    have fzs : ∀ (r : List Nat), frzs r (.fz l) = .fz l := by intro r; induction r with | nil => rfl | cons a r ih => exact ih
    by_cases hg : g = h
    · subst hg; simp only [frzs, frz1, if_true, fzs]; simp
    · simp only [frzs, frz1, if_neg hg, frzs_arr r]; simp [hg]
theorem frzs_other (fz : List Nat) (x : Ob) (h : ∀ l g e, x ≠ .arr l g e) : frzs fz x = x := by
  induction fz with
  | nil => rfl
  | cons g r ih => cases x <;> first | exact ih | exact absurd rfl (h _ _ _)

/-- The place of an object lies in the world. -/
theorem RO.lt {K : Ctx} (hg : Good K) {b sh : Nat} {x : Ob} (h : RO K (some (b, sh)) x) (hd : x ≠ .dead) : b < K.w.heap.size := by
  cases x with
  | box l => simp only [RO] at h; obtain ⟨b', cs, e, h1, _, _, h2, _⟩ := h; obtain ⟨rfl, rfl⟩ := Prod.mk.inj (Option.some.inj h1); exact heap_lt h2
  | arr l g e =>
    simp only [RO] at h
    rcases h with ⟨h, _⟩ | ⟨b', sh', cs, e, h1, _, _, h2, _⟩
    · simp at h
    · obtain ⟨rfl, rfl⟩ := Prod.mk.inj (Option.some.inj h1); exact heap_lt h2
  | fz l =>
    simp only [RO] at h
    rcases h with ⟨h, _⟩ | ⟨b', sh', h1, h2, _⟩
    · simp at h
    · obtain ⟨rfl, rfl⟩ := Prod.mk.inj (Option.some.inj h1); exact hg.F _ h2
  | mp es cl => simp only [RO] at h; obtain ⟨b', ents, h1, _, _, h2, _⟩ := h; obtain ⟨rfl, rfl⟩ := Prod.mk.inj (Option.some.inj h1); exact heap_lt h2
  | dead => exact absurd rfl hd
theorem Alias.frz {x y : Ob} {sh sh' : Nat} (h : Alias x y sh sh') (fz : List Nat) : Alias (frzs fz x) (frzs fz y) sh sh' := by
  cases x with
  | arr l g e =>
    cases y with
    | arr l' g' e' =>
      have hg : g = g' := by simp [Alias] at h; exact h.1
      subst hg
      rw [frzs_arr, frzs_arr]
      split
      · simp [Alias]
      · exact h
    | dead => rw [frzs_other fz .dead (by simp), frzs_arr]; split <;> simp [Alias]
    | _ => simp [Alias] at h
  | fz l =>
    cases y with
    | fz l' => rw [frzs_other fz (.fz l) (by simp), frzs_other fz (.fz l') (by simp)]; exact h
    | dead => rw [frzs_other fz .dead (by simp), frzs_other fz (.fz l) (by simp)]; exact h
    | _ => simp [Alias] at h
  | dead =>
    rw [frzs_other fz .dead (by simp)]
    cases y with
    | arr l' g' e' => rw [frzs_arr]; split <;> simp [Alias]
    | _ => simp [Alias]
  | box l => cases y <;> simp [Alias] at h; rw [frzs_other fz .dead (by simp), frzs_other fz (.box l) (by simp)]; simp [Alias]
  | mp es cl => cases y <;> simp [Alias] at h; rw [frzs_other fz .dead (by simp), frzs_other fz (.mp es cl) (by simp)]; simp [Alias]

/-- The objects behind an operation. -/
theorem OInv.step {K K' : Ctx} {obS obD : Nat → Option Ob} {n : Nat} {x : T} {nw : List Ob} {fz : List Nat} {val : Value} (hg : Good K) (hI : OInv K obD) (hS : ∀ o y s, obS o = some y → K.σ o = some s → obD o = some y) (hSD : fz ≠ [] → ∀ o y, obD o = some y → obS o = some y)
    (hn : ∀ i, i < nw.length → K.σ (n + i) = none) (hnd : ∀ y, y ∈ nw → y ≠ .dead)
    (htip : ∀ o l l' g gen, nw = [.arr l' g (gen + 1)] → obS o = some (.arr l g gen) → 0 < gen → ∀ o' y g' e', obD o' = some (.arr y g' e') → g' = g → e' ≤ gen)
    (st : Step K n obS x nw fz K' val) : OInv K' (fun o => if n ≤ o ∧ o < n + nw.length then nw[o - n]? else (obD o).map (frzs fz)) := by
  have hσ : ∀ o y, obD o = some y → ∃ s, K.σ o = some s ∧ K'.σ o = some s := fun o y h => by
    cases hs : K.σ o with
    | none => exact absurd hs (hI.dom o y h)
    | some s => exact ⟨s, rfl, st.ext.σ o s hs⟩
  have hnew : ∀ o, n ≤ o ∧ o < n + nw.length → obD o = none := fun o ho => by
    cases h : obD o with
    | none => rfl
    | some y =>
      have := hn (o - n) (by omega)
      rw [show n + (o - n) = o by omega] at this
      exact absurd this (hI.dom o y h)
  -- old objects stay
  have hold : ∀ o y s, obD o = some y → K.σ o = some s → RO K' s (frzs fz y) := by
    intro o y s ho hs
    have hro := hI.objs o y s ho hs
    -- the cells of a row stay
    have hcells : ∀ b sh l, s = some (b, sh) → RCs K.w K.F b sh l → (∃ g e, y = .arr l g e) ∨ y = .fz l → RCs K'.w K'.F b sh l := by
      intro b sh l e hr hy
      have hdead : y ≠ .dead := by rcases hy with ⟨g, e, rfl⟩ | rfl <;> simp
      have hlt : b < K.w.heap.size := RO.lt hg (e ▸ hro) hdead
      rcases st.kept with hk | ⟨o2, l2, l', g2, gen, b2, sh2, cs, cs', e2, hfz, h1, h2, h3, h4, h5, h6, h7, h8⟩
      · exact RCs.mono st.ext.F (fun b hb => hk b (hg.F b hb)) b (hk b hlt) _ _ hr
      · by_cases hb : b = b2
        · subst hb
          have hal := hI.alias o o2 y _ b sh sh2 ho (hS o2 _ _ h2 h4) (by rw [hs, e]) h4
          have hy2 : ∃ g e, y = .arr l g e ∧ l.length ≤ l2.length ∧ sh = sh2 := by
            rcases hal with rfl | hal
            · have := hS o _ _ h2 h4
              rw [ho] at this
              obtain rfl := Option.some.inj this
              rw [hs] at h4
              rw [e] at h4
              simp at h4
              rcases hy with ⟨g, e, hh⟩ | hh
              · simp at hh; obtain ⟨rfl, rfl, rfl⟩ := hh; exact ⟨_, _, rfl, Nat.le_refl _, h4⟩
              · simp at hh
            · rcases hy with ⟨g, e, rfl⟩ | rfl
              · simp only [Alias] at hal
                refine ⟨g, e, rfl, hal.2.2.1 (htip o2 l2 l' g2 gen h1 h2 h3 o l g e ho hal.1) h3, hal.2.1⟩
              · simp [Alias] at hal
          obtain ⟨g, e3, rfl, hle, rfl⟩ := hy2
          have hF : ∀ c, K.F c → K'.w.heap[c]? = K.w.heap[c]? := fun c hc => by
            refine h5 c (hg.F c hc) ?_
            rintro rfl
            simp only [RO] at hro
            rcases hro with ⟨q, _⟩ | ⟨b', sh', cs, et, q1, q2, _⟩
            · rw [e] at q; simp at q
            · rw [e] at q1; obtain ⟨rfl, rfl⟩ := Prod.mk.inj (Option.some.inj q1); exact q2 hc
          refine RCs_of_get _ _ fun i c hc => ?_
          obtain ⟨u, hu, r⟩ := RCs_get _ _ _ _ hr hc
          have hi : i < l.length := by rcases Nat.lt_or_ge i l.length with h' | h'; exact h'; simp [h'] at hc
          refine ⟨u, ?_, RC.mono st.ext.F hF _ _ r⟩
          rw [← hu]
          simp only [World.cell?, h6, h7, Option.isSome, Bool.false_eq_true, if_false]
          exact h8 _ (by omega)
        · exact RCs.mono st.ext.F (fun c hc => st.ext.kept c (.inl hc)) b (h5 b hlt hb) _ _ hr
    have hblock : ∀ b sh, s = some (b, sh) → (∀ l g e, y ≠ .arr l g e) → y ≠ .dead → K'.w.heap[b]? = K.w.heap[b]? := by
      intro b sh e hna hnd'
      have hlt : b < K.w.heap.size := RO.lt hg (e ▸ hro) hnd'
      rcases st.kept with hk | ⟨o2, l2, l', g2, gen, b2, sh2, cs, cs', e2, hfz, h1, h2, h3, h4, h5, h6, h7, h8⟩
      · exact hk b hlt
      · refine h5 b hlt ?_
        rintro rfl
        rcases hI.alias o o2 y _ b sh sh2 ho (hS o2 _ _ h2 h4) (by rw [hs, e]) h4 with rfl | hal
        · have := hS o _ _ h2 h4
          rw [ho] at this
          exact hna _ _ _ (Option.some.inj this)
        · cases y <;> simp [Alias] at hal
          · exact hna _ _ _ rfl
          · exact hnd' rfl
    have hnF : ∀ b sh, s = some (b, sh) → y ≠ .dead → ¬ K.F b → (∀ l g e, y = .arr l g e → g ∉ fz) → ¬ K'.F b := by
      intro b sh e hnd' hF hgz hF'
      have hlt : b < K.w.heap.size := RO.lt hg (e ▸ hro) hnd'
      rcases st.F b hF' with h | ⟨h, _⟩ | ⟨o2, l2, g2, e2, sh2, h1, h2, h3⟩
      · exact hF h
      · omega
      · rcases hI.alias o o2 y _ b sh sh2 ho (hS o2 _ _ h1 h3) (by rw [hs, e]) h3 with rfl | hal
        · have := hS o _ _ h1 h3
          rw [ho] at this
          exact hgz _ _ _ (Option.some.inj this) h2
        · cases y <;> simp [Alias] at hal
          · rename_i l g e3
            exact hgz l g e3 rfl (hal.1 ▸ h2)
          · exact hnd' rfl
    cases y with
    | arr l g e =>
      rw [frzs_arr]
      simp only [RO] at hro
      split
      · rename_i hgz
        simp only [RO]
        rcases hro with ⟨h1, h2⟩ | ⟨b, sh, cs, et, h1, h2, h3, h4, h5⟩
        · exact .inl ⟨h1, h2⟩
        · have hr := hcells b sh l h1 h5 (.inl ⟨g, e, rfl⟩)
          exact .inr ⟨b, sh, h1, st.frz o l g e b sh (hSD (by rintro rfl; simp at hgz) o _ ho) hgz (by rw [hs, h1]), hr⟩
      · rename_i hgz
        simp only [RO]
        rcases hro with ⟨h1, h2⟩ | ⟨b, sh, cs, et, h1, h2, h3, h4, h5⟩
        · exact .inl ⟨h1, h2⟩
        · have hr := hcells b sh l h1 h5 (.inl ⟨g, e, rfl⟩)
          have hnf := hnF b sh h1 (by simp) h2 fun l' g' e' he => by simp at he; rw [← he.2.1]; exact hgz
          rcases st.kept with hk | ⟨o2, l2, l', g2, gen, b2, sh2, cs2, cs', e2, hfz, q1, q2, q3, q4, q5, q6, q7, q8⟩
          · exact .inr ⟨b, sh, cs, et, h1, hnf, by rw [st.ext.base]; exact h3, (hk b (heap_lt h4)).trans h4, hr⟩
          · by_cases hb : b = b2
            · subst hb
              exact .inr ⟨b, sh, cs', e2, h1, hnf, by rw [st.ext.base]; exact h3, q7, hr⟩
            · exact .inr ⟨b, sh, cs, et, h1, hnf, by rw [st.ext.base]; exact h3, (q5 b (heap_lt h4) hb).trans h4, hr⟩
    | dead => rw [frzs_other fz .dead (by simp)]; simp only [RO]
    | box l => rw [frzs_other fz _ (by simp)]; exact RO.mono st.ext (fun b sh e h => hnF b sh e (by simp) h (by simp)) (fun b sh e => hblock b sh e (by simp) (by simp)) hro
    | fz l => rw [frzs_other fz _ (by simp)]; exact RO.mono st.ext (fun b sh e h => hnF b sh e (by simp) h (by simp)) (fun b sh e => hblock b sh e (by simp) (by simp)) hro
    | mp es cl => rw [frzs_other fz _ (by simp)]; exact RO.mono st.ext (fun b sh e h => hnF b sh e (by simp) h (by simp)) (fun b sh e => hblock b sh e (by simp) (by simp)) hro
  have hnewO : ∀ i y, nw[i]? = some y → ∃ s, K'.σ (n + i) = some s ∧ RO K' s y := st.new
  refine ⟨fun o y s ho hs => ?_, fun o y ho => ?_, fun o o' y y' b sh sh' ho ho' hs hs' => ?_⟩
  · split at ho
    · rename_i hc
      obtain ⟨s', h1, h2⟩ := st.new _ _ ho
      rw [show n + (o - n) = o by omega, hs] at h1
      obtain rfl := Option.some.inj h1
      exact h2
    · obtain ⟨y', h1, rfl⟩ := Option.map_eq_some_iff.1 ho
      obtain ⟨s', h2, h3⟩ := hσ o y' h1
      rw [hs] at h3; obtain rfl := Option.some.inj h3
      exact hold o y' s h1 h2
  · split at ho
    · rename_i hc
      obtain ⟨s', h1, h2⟩ := st.new _ _ ho
      rw [show n + (o - n) = o by omega] at h1
      rw [h1]; simp
    · obtain ⟨y', h1, rfl⟩ := Option.map_eq_some_iff.1 ho
      obtain ⟨s', h2, h3⟩ := hσ o y' h1
      rw [h3]; simp
  · -- two objects in one block
    have mixed : ∀ o o' y y' b sh sh', (n ≤ o ∧ o < n + nw.length) → nw[o - n]? = some y → obD o' = some y' → K'.σ o = some (some (b, sh)) → K'.σ o' = some (some (b, sh')) → Alias y (frzs fz y') sh sh' := by
      intro o o' y y' b sh sh' hc h1 h2 h3 h4
      obtain ⟨s', h5, h6⟩ := hσ o' y' h2
      rw [h4] at h6; obtain rfl := Option.some.inj h6
      have hdy : y ≠ .dead := hnd y (List.mem_of_getElem? h1)
      by_cases hd' : y' = .dead
      · subst hd'; rw [frzs_other fz .dead (by simp)]; cases y <;> simp [Alias] at hdy ⊢
      have hlt : b < K.w.heap.size := RO.lt hg (hI.objs o' y' _ h2 h5) hd'
      have h3' := h3
      rw [show o = n + (o - n) by omega] at h3'
      rcases st.place (o - n) b sh (by omega) h3' with ⟨h, _⟩ | ⟨o2, l2, l', g, gen, rfl, q1, q2, q3, q4, q5⟩
      · omega
      · have hz : o - n = 0 := by rw [q1] at hc; simp at hc; omega
        rw [hz, q1] at h1
        simp at h1; subst h1
        have q6 := hS o2 _ _ q2 q4
        rcases hI.alias o' o2 y' _ b sh' sh h2 q6 h5 q4 with rfl | hal
        · rw [h2] at q6; obtain rfl := Option.some.inj q6
          rw [h5] at q4; simp at q4; subst q4
          rw [frzs_arr]
          split
          · rename_i hh; simp at hh
          · simp only [Alias]
            exact ⟨trivial, trivial, fun h => by omega, fun _ _ => q5⟩
        · cases y' with
          | arr ly gy ey =>
            simp only [Alias] at hal
            obtain ⟨rfl, rfl, a1, a2⟩ := hal
            have hle := htip o2 l2 l' gy gen q1 q2 q3 o' ly gy ey h2 rfl
            rw [frzs_arr]
            split
            · rename_i hh; simp at hh
            · simp only [Alias]
              exact ⟨trivial, trivial, fun h => by omega, fun _ _ => Nat.le_trans (a1 hle q3) q5⟩
          | dead => exact absurd rfl hd'
          | _ => simp [Alias] at hal
    split at ho
    · rename_i hc
      split at ho'
      · rename_i hc'
        left
        have e1 := hs; have e2 := hs'
        rw [show o = n + (o - n) by omega] at e1
        rw [show o' = n + (o' - n) by omega] at e2
        have := st.apart (o - n) (o' - n) b sh sh' (by omega) (by omega) e1 e2
        omega
      · obtain ⟨z, h1, rfl⟩ := Option.map_eq_some_iff.1 ho'
        exact .inr (mixed o o' y z b sh sh' hc ho h1 hs hs')
    · obtain ⟨z, h1, rfl⟩ := Option.map_eq_some_iff.1 ho
      split at ho'
      · rename_i hc'
        exact .inr (mixed o' o y' z b sh' sh hc' ho' h1 hs' hs).symm
      · obtain ⟨z', h2, rfl⟩ := Option.map_eq_some_iff.1 ho'
        obtain ⟨s1, h3, h4⟩ := hσ o z h1
        obtain ⟨s2, h5, h6⟩ := hσ o' z' h2
        rw [hs] at h4; obtain rfl := Option.some.inj h4
        rw [hs'] at h6; obtain rfl := Option.some.inj h6
        exact (hI.alias o o' z z' b sh sh' h1 h2 h3 h5).imp id fun h => h.frz fz
end Go.Proofs.YtnbijiopcgfmfaaGreat.Tev
/- The invariant between a state and the world; operations one after the other. -/
namespace Go.Proofs.YtnbijiopcgfmfaaGreat.Tev
open Go Go.RowKit
set_option linter.unusedSectionVars false
set_option linter.unusedVariables false
set_option linter.unusedSimpArgs false

structure Inv (m : Nat) (w0 : World) (F0 : Nat → Prop) (K : Ctx) (S : St) (a : Act) : Prop where
  good : Good K
  base : K.base = w0.heap.size
  below : Below w0.heap.size w0 K.w
  Fin : ∀ b, F0 b → K.F b
  Fout : ∀ b, K.F b → F0 b ∨ w0.heap.size ≤ b
  size : a.tmps.size = m
  defers : a.defers = []
  tm : ∀ t, RT K (get S.t t) (a.tmps.getD t undef)
  oi : OInv K (obj S.o)
  fresh : ∀ o, S.n ≤ o → K.σ o = none
  grp : ∀ o l g e, obj S.o o = some (.arr l g e) → g < S.n

theorem tipOk_get {g gen : Nat} : ∀ {l : List (Nat × Ob)} {o : Nat} {y : List C} {g' e' : Nat}, tipOk g gen l = true → obj l o = some (.arr y g' e') → g' = g → e' ≤ gen
  | [], o, y, g', e', _, h, _ => by simp [obj] at h
  | (k, x) :: l, o, y, g', e', ht, h, hg => by
    simp only [obj] at h
    split at h
    · obtain rfl := Option.some.inj h
      simp only [tipOk, hg, if_true, Bool.and_eq_true, decide_eq_true_eq] at ht
      exact ht.1
    · refine tipOk_get (l := l) ?_ h hg
      cases x <;> simp [tipOk] at ht <;> first | exact ht.2 | exact ht
/-- What an operation makes. -/
theorem opN_shape {E : Env} {cl : FuncId → List T → Option R} {S : St} {o : Oper} {x : T} {nw : List Ob} {fz : List Nat} (h : opN E cl S o = some (x, nw, fz)) :
    (∃ ls, nw = arrs S.n ls) ∨ (∃ z, nw = [.box z]) ∨ nw = [.mp [] 0] ∨
    (∃ p l0 g e0 l, nw = [.arr l g (e0 + 1)] ∧ obj S.o p = some (.arr l0 g e0) ∧ 0 < e0 ∧ tipOk g e0 S.o = true ∧ isA o.op = true) := by
  have nil : nw = [] → ∃ ls, nw = arrs S.n ls := fun h => ⟨[], h⟩
  have one : ∀ l, nw = [.arr l S.n 1] → ∃ ls, nw = arrs S.n ls := fun l h => ⟨[l], h⟩
  obtain ⟨d, op, ty, pos, af, gg⟩ := o
  cases op <;> simp only [opN] at h
  case move y => simp only [Option.some.injEq, Prod.mk.injEq] at h; exact .inl (nil h.2.1.symm)
  case assign y => simp only [Option.some.injEq, Prod.mk.injEq] at h; exact .inl (nil h.2.1.symm)
  case alloc t =>
    have h := (v1_inv h).1
    unfold allocT at h; obtain ⟨z, _, h2⟩ := Option.map_eq_some_iff.1 h
    exact .inr (.inl ⟨_, (Prod.mk.inj h2).2.symm⟩)
  case box t y =>
    have h := (v1_inv h).1
    unfold allocT at h; obtain ⟨z, _, h2⟩ := Option.map_eq_some_iff.1 h
    exact .inr (.inl ⟨_, (Prod.mk.inj h2).2.symm⟩)
  case makeMap t r =>
    have h := (v1_inv h).1
    unfold makeMapT at h
    split at h
    · obtain ⟨z, _, h2⟩ := Option.map_eq_some_iff.1 h; exact .inr (.inr (.inl (Prod.mk.inj h2).2.symm))
    · simp at h
  case buildSlice t k ps =>
    unfold buildSliceT at h
    obtain ⟨_, _, h⟩ := Option.bind_eq_some_iff.1 h
    obtain ⟨_, _, h⟩ := Option.bind_eq_some_iff.1 h
    obtain ⟨_, _, h⟩ := Option.bind_eq_some_iff.1 h
    split at h
    · obtain ⟨_, _, h⟩ := Option.bind_eq_some_iff.1 h
      obtain ⟨_, _, h2⟩ := Option.map_eq_some_iff.1 h
      simp only [Prod.mk.injEq] at h2
      exact .inl (one _ h2.2.1.symm)
    · simp at h
  case makeSlice t y z =>
    have h := (v1_inv h).1
    unfold makeSliceT at h
    obtain ⟨_, _, h⟩ := Option.bind_eq_some_iff.1 h
    obtain ⟨_, _, h⟩ := Option.bind_eq_some_iff.1 h
    obtain ⟨_, _, h⟩ := Option.bind_eq_some_iff.1 h
    obtain ⟨_, _, h⟩ := Option.bind_eq_some_iff.1 h
    split at h
    · split at h
      · split at h
        · simp only [Option.some.injEq, Prod.mk.injEq] at h; exact .inl (one _ h.2.symm)
        · simp at h
      · simp at h
    · simp at h
  case call c =>
    obtain ⟨callee, args, ats⟩ := c
    cases callee with
    | invoke => simp at h
    | value f =>
      have h := (v1_inv h).1
      unfold callT at h
      split at h
      · obtain ⟨_, _, h⟩ := Option.bind_eq_some_iff.1 h
        obtain ⟨_, _, h⟩ := Option.bind_eq_some_iff.1 h
        obtain ⟨r, _, h2⟩ := Option.map_eq_some_iff.1 h
        exact .inl ⟨r.2, (Prod.mk.inj h2).2.symm⟩
      · simp at h
    | builtin b =>
      have h := (v1_inv h).1
      unfold builtinT at h
      split at h
      · obtain ⟨_, _, h⟩ := Option.bind_eq_some_iff.1 h; exact .inl (nil (w0_inv h).2)
      · exact .inl (nil (w0_inv h).2)
      · exact .inl (nil (w0_inv h).2)
      · obtain ⟨_, _, h⟩ := Option.bind_eq_some_iff.1 h
        obtain ⟨_, _, h⟩ := Option.bind_eq_some_iff.1 h
        have app : ∀ (k m by_ sz : Nat) (l x' : List C) (g gen : Nat), app1 S.n k m by_ sz l x' g gen = some (x, nw) → nw = [.arr (l ++ x') g gen] := by
          intro k m by_ sz l x' g gen h
          unfold app1 at h
          split at h
          · simp only [Option.some.injEq, Prod.mk.injEq] at h; exact h.2.symm
          · simp at h
        unfold appendT at h
        obtain ⟨_, _, h⟩ := Option.bind_eq_some_iff.1 h
        obtain ⟨_, _, h⟩ := Option.bind_eq_some_iff.1 h
        obtain ⟨_, _, h⟩ := Option.bind_eq_some_iff.1 h
        obtain ⟨_, _, h⟩ := Option.bind_eq_some_iff.1 h
        split at h
        · split at h
          · exact .inl (one _ (app _ _ _ _ _ _ _ _ h))
          · split at h
            · rename_i l g gen ho
              split at h
              · rename_i hc
                exact .inr (.inr (.inr ⟨_, l, g, gen, _, app _ _ _ _ _ _ _ _ h, ho, hc.2.2.1, hc.2.2.2, rfl⟩))
              · simp at h
            · simp at h
          · simp at h
        · simp at h
      · simp at h
  all_goals first
    | (exact .inl (nil (v0_inv h).2.1))
    | (simp at h)
theorem arrs_mem {n : Nat} {ls : List (List C)} {y : Ob} (h : y ∈ arrs n ls) : ∃ i l, i < ls.length ∧ y = .arr l (n + i) 1 := by
  obtain ⟨i, hi, rfl⟩ := List.mem_iff_getElem.1 h
  have := arrs_get n ls i
  rw [List.getElem?_eq_getElem hi] at this
  obtain ⟨l, hl, h2⟩ := Option.map_eq_some_iff.1 this.symm
  rw [arrs_length] at hi
  exact ⟨i, l, hi, h2.symm⟩
theorem opN_live {E : Env} {cl : FuncId → List T → Option R} {S : St} {o : Oper} {x : T} {nw : List Ob} {fz : List Nat} (h : opN E cl S o = some (x, nw, fz)) : ∀ y ∈ nw, y ≠ .dead := by
  intro y hy
  rcases opN_shape h with ⟨ls, rfl⟩ | ⟨z, rfl⟩ | rfl | ⟨p, l0, g, e0, l, rfl, _⟩
  · obtain ⟨i, l, _, rfl⟩ := arrs_mem hy; simp
  · simp at hy; subst hy; simp
  · simp at hy; subst hy; simp
  · simp at hy; subst hy; simp
theorem opN_tip {E : Env} {cl : FuncId → List T → Option R} {S : St} {o : Oper} {x : T} {nw : List Ob} {fz : List Nat} (h : opN E cl S o = some (x, nw, fz)) {l' : List C} {g gen : Nat} (hn : nw = [.arr l' g (gen + 1)]) (h0 : 0 < gen) :
    tipOk g gen S.o = true ∧ isA o.op = true ∧ ∃ p l0, obj S.o p = some (.arr l0 g gen) := by
  rcases opN_shape h with ⟨ls, rfl⟩ | ⟨z, rfl⟩ | rfl | ⟨p, l0, g', e0, l, rfl, h1, h2, h3, h4⟩
  · obtain ⟨i, l, _, hy⟩ := arrs_mem (show Ob.arr l' g (gen + 1) ∈ arrs S.n ls by rw [hn]; simp)
    simp at hy; omega
  · simp at hn
  · simp at hn
  · simp at hn; obtain ⟨rfl, rfl, rfl⟩ := hn; exact ⟨h3, h4, p, l0, h1⟩
/-- A group of what is made is new, or that of the row that an append goes on with. -/
theorem opN_grp {E : Env} {cl : FuncId → List T → Option R} {S : St} {o : Oper} {x : T} {nw : List Ob} {fz : List Nat} (h : opN E cl S o = some (x, nw, fz)) {l : List C} {g e : Nat} (hy : Ob.arr l g e ∈ nw) :
    (S.n ≤ g ∧ g < S.n + nw.length) ∨ (isA o.op = true ∧ ∃ p l0 e0, obj S.o p = some (.arr l0 g e0)) := by
  rcases opN_shape h with ⟨ls, rfl⟩ | ⟨z, rfl⟩ | rfl | ⟨p, l0, g', e0, l, rfl, h1, h2, h3, h4⟩
  · obtain ⟨i, l, hi, h⟩ := arrs_mem hy
    simp at h; obtain ⟨_, rfl, _⟩ := h
    exact .inl ⟨by omega, by rw [arrs_length]; omega⟩
  · simp at hy
  · simp at hy
  · simp at hy; obtain ⟨_, rfl, _⟩ := hy; exact .inr ⟨h4, p, l0, e0, h1⟩

theorem get_put (S : St) (d : Nat) (x : T) (t : Nat) : get (S.put d x).t t = if d = t then x else get S.t t := rfl
theorem getD_put (a : Act) (d : Nat) (v : Value) (t : Nat) (h : d < a.tmps.size) : (a.put (some d) v).tmps.getD t undef = if d = t then v else a.tmps.getD t undef := by
  simp only [Act.put, Array.getD_eq_getD_getElem?, Array.getElem?_setIfInBounds]
  by_cases hd : d = t
  · subst hd; simp [h]
  · simp [hd]
theorem put_size (a : Act) (d : Option Nat) (v : Value) : (a.put d v).tmps.size = a.tmps.size := by cases d <;> simp [Act.put]
theorem Good.step {K K' : Ctx} {n : Nat} {ob : Nat → Option Ob} {x : T} {nw : List Ob} {fz : List Nat} {val : Value} (hg : Good K) (hobj : ∀ o x s, ob o = some x → K.σ o = some s → RO K s x) (st : Step K n ob x nw fz K' val) : Good K' := by
  refine ⟨fun b hb => ?_, by rw [st.ext.base]; exact Nat.le_trans hg.base st.below.size⟩
  rcases st.F b hb with h | ⟨_, h⟩ | ⟨o, l, g, e, sh, h1, h2, h3⟩
  · exact Nat.lt_of_lt_of_le (hg.F b h) st.below.size
  · exact h
  · exact Nat.lt_of_lt_of_le (RO.lt hg (hobj _ _ _ h1 h3) (by simp)) st.below.size
section
variable {m : Nat} {w0 : World} {F0 : Nat → Prop} {K : Ctx} {S : St} {a : Act}
theorem Inv.put (h : Inv m w0 F0 K S a) (d : Option Nat) (hd : ∀ t, d = some t → t < m) {x : T} {v : Value} (r : RT K x v) : Inv m w0 F0 K (S.putO d x) (a.put d v) := by
  cases d with
  | none => exact { h with }
  | some d =>
    exact { h with
      size := (put_size a (some d) v).trans h.size
      tm := fun t => by
        rw [getD_put a d v t (by rw [h.size]; exact hd d rfl)]
        show RT K (get (S.put d x).t t) _
        rw [get_put]
        split
        · exact r
        · exact h.tm t }
/-- A bool that a temporary holds, put there again. -/
theorem Inv.reput (h : Inv m w0 F0 K S a) {d : Nat} {x : T} (hx : get S.t d = x) : Inv m w0 F0 K (S.put d x) a := { h with
  tm := fun t => by
    rw [get_put]
    split
    · rename_i e; subst e; rw [← hx]; exact h.tm d
    · exact h.tm t }
theorem Inv.step {E : Env} {cl : FuncId → List T → Option R} (h : Inv m w0 F0 K S a) {o : Oper} {x : T} {nw : List Ob} {fz : List Nat} (ho : opN E cl S o = some (x, nw, fz)) {K' : Ctx} {val : Value} (st : Step K S.n (obj S.o) x nw fz K' val) :
    Inv m w0 F0 K' (S.add fz nw) a where
  good := h.good.step h.oi.objs st
  base := st.ext.base.trans h.base
  below := h.below.trans (st.below.mono (by rw [h.base]; exact Nat.le_refl _))
  Fin := fun b hb => st.ext.F b (h.Fin b hb)
  Fout := fun b hb => by
    rcases st.F b hb with h1 | ⟨h1, _⟩ | ⟨o, l, g, e, sh, h1, h2, h3⟩
    · exact h.Fout b h1
    · exact .inr (Nat.le_trans h.below.size h1)
    · have := h.oi.objs _ _ _ h1 h3
      simp only [RO] at this
      rcases this with ⟨h, _⟩ | ⟨b', sh', cs, et, h4, _, h5, _⟩
      · simp at h
      · obtain ⟨rfl, rfl⟩ := Prod.mk.inj (Option.some.inj h4)
        exact .inr (by rw [← h.base]; exact h5)
  size := h.size
  defers := h.defers
  tm := fun t => RT.mono st.ext _ _ (h.tm t)
  oi := by
    have := OInv.step h.good h.oi (fun o y s h1 _ => h1) (fun _ o y h => h) (fun i hi => h.fresh _ (by omega)) (opN_live ho)
      (fun p l l' g gen h1 h2 h3 o' y g' e' h4 h5 => tipOk_get (opN_tip ho h1 h3).1 h4 h5) st
    refine cast (congrArg (OInv K') (funext fun o => ?_)) this
    show _ = obj (addO S.n nw ++ frzGs fz S.o) o
    rw [obj_addO, obj_frzGs]
  fresh := fun o hlt => by
    cases hs : K'.σ o with
    | none => rfl
    | some s =>
      have hlt' : S.n + nw.length ≤ o := hlt
      rcases st.dom o s hs with h1 | ⟨i, h1, h2⟩
      · rw [h.fresh o (by omega)] at h1; simp at h1
      · omega
  grp := fun o l g e hh => by
    have hh' : obj (addO S.n nw ++ frzGs fz S.o) o = some (.arr l g e) := hh
    show g < S.n + nw.length
    rw [obj_addO, obj_frzGs] at hh'
    split at hh'
    · rcases opN_grp ho (List.mem_of_getElem? hh') with h1 | ⟨_, p, l0, e0, h1⟩
      · exact h1.2
      · have := h.grp _ _ _ _ h1; omega
    · obtain ⟨y, h1, h2⟩ := Option.map_eq_some_iff.1 hh'
      cases y with
      | arr l' g' e' =>
        rw [frzs_arr] at h2
        split at h2
        · simp at h2
        · simp at h2; obtain ⟨rfl, rfl, rfl⟩ := h2
          have := h.grp _ _ _ _ h1; omega
      | _ => rw [frzs_other fz _ (by simp)] at h2; simp at h2
/-- Rows are not written any more from here on. -/
theorem Inv.freeze (h : Inv m w0 F0 K S a) (fz : List Nat) : ∃ K', K'.w = K.w ∧ Inv m w0 F0 K' ⟨S.t, frzGs fz S.o, S.n⟩ a := by
  have st : Step K S.n (obj S.o) .und [] fz (K.frz (obj S.o) fz) undef := .ofFrz (fun l g gen h0 => by simp at h0) (Step.same (by simp only [RT]))
  refine ⟨K.frz (obj S.o) fz, rfl, ?_⟩
  exact {
    good := h.good.step h.oi.objs st
    base := st.ext.base.trans h.base
    below := h.below.trans (st.below.mono (by rw [h.base]; exact Nat.le_refl _))
    Fin := fun b hb => st.ext.F b (h.Fin b hb)
    Fout := fun b hb => by
      rcases st.F b hb with h1 | ⟨h1, _⟩ | ⟨o, l, g, e, sh, h1, h2, h3⟩
      · exact h.Fout b h1
      · exact .inr (Nat.le_trans h.below.size h1)
      · have := h.oi.objs _ _ _ h1 h3
        simp only [RO] at this
        rcases this with ⟨h, _⟩ | ⟨b', sh', cs, et, h4, _, h5, _⟩
        · simp at h
        · obtain ⟨rfl, rfl⟩ := Prod.mk.inj (Option.some.inj h4)
          exact .inr (by rw [← h.base]; exact h5)
    size := h.size
    defers := h.defers
    tm := fun t => RT.mono st.ext _ _ (h.tm t)
    oi := by
      have := OInv.step h.good h.oi (fun o y s h1 _ => h1) (fun _ o y h => h) (fun i hi => h.fresh _ (by omega)) (fun y hy => by simp at hy)
        (fun p l l' g gen h1 h2 h3 o' y g' e' h4 h5 => by simp at h1) st
      refine cast (congrArg (OInv (K.frz (obj S.o) fz)) (funext fun o => ?_)) this
      show _ = obj (frzGs fz S.o) o
      rw [obj_frzGs, if_neg (by simp)]
    fresh := fun o hlt => h.fresh o hlt
    grp := fun o l g e hh => by
      have hh' : obj (frzGs fz S.o) o = some (.arr l g e) := hh
      show g < S.n
      rw [obj_frzGs] at hh'
      obtain ⟨y, h1, h2⟩ := Option.map_eq_some_iff.1 hh'
      cases y with
      | arr l' g' e' =>
        rw [frzs_arr] at h2
        split at h2
        · simp at h2
        · simp at h2; obtain ⟨rfl, rfl, rfl⟩ := h2
          exact h.grp _ _ _ _ h1
      | _ => rw [frzs_other fz _ (by simp)] at h2; simp at h2 }
theorem Inv.frzA (h : Inv m w0 F0 K S a) : ∀ (ts : List Nat), ∃ K', K'.w = K.w ∧ Inv m w0 F0 K' (frzA S ts) a
  | [] => ⟨K, rfl, h⟩
  | _ :: _ => h.freeze _
end
end Go.Proofs.YtnbijiopcgfmfaaGreat.Tev
/- Stores. -/
namespace Go.Proofs.YtnbijiopcgfmfaaGreat.Tev
open Go Go.RowKit
set_option linter.unusedSectionVars false
set_option linter.unusedVariables false
set_option linter.unusedSimpArgs false
theorem obj_setO (o : Nat) (x : Ob) : ∀ (l : List (Nat × Ob)) (p : Nat), obj (setO o x l) p = if p = o then (obj l p).map (fun _ => x) else obj l p
  | [], p => by simp [setO, obj]
  | (k, y) :: l, p => by
    simp only [setO]
    split
    · rename_i h; subst h
      simp only [obj]
      by_cases hp : k = p
      · subst hp; simp
      · rw [if_neg hp, if_neg hp, obj_setO k x l p]
    · rename_i h
      simp only [obj]
      by_cases hp : k = p
      · subst hp; simp [h]
      · rw [if_neg hp, if_neg hp, obj_setO o x l p]
theorem obj_killG (g o : Nat) : ∀ (l : List (Nat × Ob)) (p : Nat), obj (killG g o l) p = (obj l p).map (kill1 g o p)
  | [], p => rfl
  | (k, y) :: l, p => by
    simp only [killG, obj]
    by_cases hp : k = p
    · subst hp; simp
    · rw [if_neg hp, if_neg hp, obj_killG g o l p]
/-- What a store to x leaves of z: nothing, if it is of x's group. -/
def kill2 (x z : Ob) : Ob :=
  match x, z with
  | .arr _ g _, .arr l g' e' => if g' = g then .dead else .arr l g' e'
  | _, z => z
theorem RT_one {K : Ctx} {x : T} {u : Value} (h : oneT x = true) (r : RT K x u) : u.oneCell' = true := by
  cases x with
  | c y =>
    simp only [RT] at r; exact RC_one r
  | und => simp [oneT] at h
  | junk => simp [oneT] at h
  | agg => simp [oneT] at h
  | tup => simp [oneT] at h
  | tmp => simp only [RT] at r; obtain ⟨_, _, rfl, _⟩ := r; rfl
  | sl => simp only [RT] at r; obtain ⟨_, _, rfl, _⟩ := r; rfl
  | pt => simp only [RT] at r; obtain ⟨_, _, _, rfl⟩ := r; rfl
  | rp => simp only [RT] at r; obtain ⟨_, _, rfl, _⟩ := r; rfl
  | rb => simp only [RT] at r; obtain ⟨_, rfl, _⟩ := r; rfl
  | fn => simp only [RT] at r; obtain ⟨_, rfl, _⟩ := r; rfl
  | mp => simp only [RT] at r; obtain ⟨_, _, _, rfl⟩ := r; rfl
  | ms => simp only [RT] at r; obtain ⟨_, _, _, rfl, _⟩ := r; rfl
section
variable {P : Program} {m : Nat} {w0 : World} {F0 : Nat → Prop} {K : Ctx} {S : St} {a : Act}
def Ctx.setRow (K : Ctx) (b : Nat) (cs : Array Value) : Ctx := { K with w := K.w.setRow b cs }
theorem KExt.setRow {b : Nat} {cs cs' : Array Value} {e : TypeId} {fr : Nat × Nat} (hF : ¬ K.F b) (hb : K.base ≤ b) (hh : K.w.heap[b]? = some (.cells cs e fr)) (hs : cs'.size = cs.size) : KExt K (K.setRow b cs') where
  base := rfl
  F := fun _ h => h
  σ := fun _ _ h => h
  kept := fun c hc => setRow_other _ _ _ _ (by rintro rfl; rcases hc with h | h; exact hF h; omega)
  sizes := fun c q e' fr' h => by
    by_cases hc : c = b
    · subst hc
      rw [hh] at h
      simp only [Option.some.injEq, Obj.cells.injEq] at h
      obtain ⟨rfl, rfl, rfl⟩ := h
      exact ⟨cs', e, fr, setRow_heap _ _ _ _ _ _ hh, hs⟩
    · exact ⟨q, e', fr', (setRow_other _ _ _ _ hc).trans h, rfl⟩
/-- A cell's block is written: the state behind it. -/
theorem Inv.write (h : Inv m w0 F0 K S a) {p b sh : Nat} {x y : Ob} {cs cs' : Array Value} {e : TypeId} {fr : Nat × Nat} (hp : obj S.o p = some x) (hs : K.σ p = some (some (b, sh))) (hF : ¬ K.F b) (hb : K.base ≤ b) (hh : K.w.heap[b]? = some (.cells cs e fr)) (hsz : cs'.size = cs.size)
    {os : List (Nat × Ob)} (hos : ∀ o, obj os o = if o = p then some y else (obj S.o o).map (kill2 x))
    (hy : RO (K.setRow b cs') (some (b, sh)) y) (hxy : (∃ l, x = .box l ∧ ∃ l', y = .box l') ∨ ∃ l l' g gen, x = .arr l g gen ∧ y = .arr l' g gen) :
    Inv m w0 F0 (K.setRow b cs') { S with o := os } a := by
  have hext := KExt.setRow hF hb hh hsz
  have hxd : x ≠ .dead := by rcases hxy with ⟨l, rfl, _⟩ | ⟨_, _, _, _, rfl, _⟩ <;> simp
  have other : ∀ o z s, o ≠ p → obj S.o o = some z → K.σ o = some s → ∀ z', kill2 x z = z' → (z' = .dead ∨ z' = z ∧ ∀ b' sh', s = some (b', sh') → z ≠ .dead → b' ≠ b) := by
    intro o z s hne ho hs' z' hz
    by_cases hzd : z = .dead
    · subst hzd; left; rw [← hz]; cases x <;> rfl
    have key : (∀ l g e g0 l0 e0, x = .arr l0 g0 e0 → z = .arr l g e → g ≠ g0) → z' = z ∧ ∀ b' sh', s = some (b', sh') → z ≠ .dead → b' ≠ b := by
      intro hn
      refine ⟨?_, fun b' sh' e _ hbb => ?_⟩
      · rw [← hz]
        cases x <;> cases z <;> first | rfl | (rename_i l0 g0 e0 l g e2; have := hn l g e2 g0 l0 e0 rfl rfl; simp [kill2, this])
      · subst hbb
        rcases h.oi.alias o p z x b' sh' sh ho hp (by rw [hs', e]) hs with h1 | h1
        · exact hne h1
        · cases z with
          | arr l g e2 =>
            cases x with
            | arr l0 g0 e0 => simp only [Alias] at h1; exact hn _ _ _ _ _ _ rfl rfl h1.1
            | dead => exact hxd rfl
            | _ => simp [Alias] at h1
          | dead => exact hzd rfl
          | fz l => rcases hxy with ⟨l, rfl, _⟩ | ⟨_, _, _, _, rfl, _⟩ <;> simp [Alias] at h1
          | box l => rcases hxy with ⟨l, rfl, _⟩ | ⟨_, _, _, _, rfl, _⟩ <;> simp [Alias] at h1
          | mp es cl => rcases hxy with ⟨l, rfl, _⟩ | ⟨_, _, _, _, rfl, _⟩ <;> simp [Alias] at h1
    cases x with
    | arr l0 g0 e0 =>
      cases z with
      | arr l g e2 =>
        by_cases hg : g = g0
        · left; rw [← hz]; simp [kill2, hg]
        · right; exact key fun _ _ _ _ _ _ e1 e2 => by simp at e1 e2; omega
      | _ => right; exact key fun _ _ _ _ _ _ e1 e2 => by simp at e2
    | _ => right; exact key fun _ _ _ _ _ _ e1 e2 => by simp at e1
  have getz : ∀ o z', o ≠ p → obj os o = some z' → ∃ z, obj S.o o = some z ∧ kill2 x z = z' := by
    intro o z' hne ho
    rw [hos, if_neg hne] at ho
    exact Option.map_eq_some_iff.1 ho
  exact {
    good := ⟨fun c hc => by show c < (K.w.setRow b cs').heap.size; rw [setRow_size]; exact h.good.F c hc, by show K.base ≤ (K.w.setRow b cs').heap.size; rw [setRow_size]; exact h.good.base⟩
    base := h.base
    below := h.below.trans (setRow_below (by rw [← h.base]; exact hb))
    Fin := h.Fin
    Fout := h.Fout
    size := h.size
    defers := h.defers
    tm := fun t => RT.mono hext _ _ (h.tm t)
    oi := {
      objs := fun o z' s ho hs' => by
        by_cases hne : o = p
        · subst hne
          rw [hos, if_pos rfl] at ho
          obtain rfl := Option.some.inj ho
          have hs'' : K.σ o = some s := hs'
          rw [hs] at hs''; obtain rfl := Option.some.inj hs''
          exact hy
        · obtain ⟨z, h1, h2⟩ := getz o z' hne ho
          rcases other o z s hne h1 hs' z' h2 with rfl | ⟨rfl, h3⟩
          · simp only [RO]
          · by_cases hzd : z' = .dead
            · subst hzd; simp only [RO]
            · exact RO.mono hext (fun _ _ _ h => h) (fun b' sh' e => setRow_other _ _ _ _ (h3 b' sh' e hzd)) (h.oi.objs o z' s h1 hs')
      dom := fun o z' ho => by
        by_cases hne : o = p
        · subst hne; show K.σ o ≠ none; rw [hs]; simp
        · obtain ⟨z, h1, _⟩ := getz o z' hne ho
          exact h.oi.dom o z h1
      alias := fun o o' z1 z2 b1 sh1 sh2 ho ho' hs1 hs2 => by
        have one : ∀ o z' b1 sh1 sh2, o ≠ p → obj os o = some z' → K.σ o = some (some (b1, sh1)) → K.σ p = some (some (b1, sh2)) → Alias z' y sh1 sh2 := by
          intro o z' b1 sh1 sh2 hne ho hs1 hs2
          obtain ⟨z, h1, h2⟩ := getz o z' hne ho
          rcases other o z _ hne h1 hs1 z' h2 with rfl | ⟨rfl, h3⟩
          · cases y <;> simp [Alias]
          · by_cases hzd : z' = .dead
            · subst hzd; cases y <;> simp [Alias]
            · rw [hs] at hs2; simp at hs2
              exact absurd hs2.1.symm (h3 b1 sh1 rfl hzd)
        by_cases h1 : o = p
        · by_cases h2 : o' = p
          · exact .inl (h1.trans h2.symm)
          · subst h1
            rw [hos, if_pos rfl] at ho; obtain rfl := Option.some.inj ho
            exact .inr (one o' z2 b1 sh2 sh1 h2 ho' hs2 hs1).symm
        · by_cases h2 : o' = p
          · subst h2
            rw [hos, if_pos rfl] at ho'; obtain rfl := Option.some.inj ho'
            exact .inr (one o z1 b1 sh1 sh2 h1 ho hs1 hs2)
          · obtain ⟨z, g1, g2⟩ := getz o z1 h1 ho
            obtain ⟨z', g3, g4⟩ := getz o' z2 h2 ho'
            rcases other o z _ h1 g1 hs1 z1 g2 with rfl | ⟨rfl, _⟩
            · right; cases z2 <;> simp [Alias]
            · rcases other o' z' _ h2 g3 hs2 z2 g4 with rfl | ⟨rfl, _⟩
              · right; cases z1 <;> simp [Alias]
              · exact h.oi.alias o o' z1 z2 b1 sh1 sh2 g1 g3 hs1 hs2 }
    fresh := h.fresh
    grp := fun o l g e2 ho => by
      by_cases hne : o = p
      · subst hne
        have ho' : obj os o = _ := ho
        rw [hos, if_pos rfl] at ho'
        obtain rfl := Option.some.inj ho'
        rcases hxy with ⟨_, _, _, q⟩ | ⟨l1, l2, g1, gen1, rfl, q⟩
        · simp at q
        · simp at q; obtain ⟨_, rfl, _⟩ := q; exact h.grp _ _ _ _ hp
      · obtain ⟨z, h1, h2⟩ := getz o _ hne ho
        cases z with
        | arr l0 g0 e0 =>
          have : g0 = g := by
            cases x with
            | arr l3 g3 e3 =>
              simp only [kill2] at h2
              split at h2
              · simp at h2
              · simp at h2; exact h2.2.1
            | _ => simp [kill2] at h2; exact h2.2.1
          subst this
          exact h.grp _ _ _ _ h1
        | _ => cases x <;> simp [kill2] at h2 }

theorem store_run {t : TypeId} {sz : Nat} (h2 : szOf P t = some sz) (y z : Operand) (d : Option Nat) (ty : TypeId) (pos : String) (af : Array Edge) (gg : Option (Nat × Bool)) {b off : Nat} (ha : a.eval y = .pointer (some ⟨b, off, none⟩)) (hsz : (a.eval z).cells.toList.length = sz)
    (h1 : ∀ v ∈ (a.eval z).cells.toList, v.oneCell' = true) {w : World} {cs : Array Value} {e : TypeId} (hh : w.heap[b]? = some (.cells cs e (0, 0))) (hroom : off + sz ≤ cs.size) :
    (execOp a.eval ⟨d, .store t y z, ty, pos, af, gg⟩).run P w = .ok .skip (w.setRow b (cs.toList.take off ++ (a.eval z).cells.toList ++ cs.toList.drop (off + sz)).toArray) := by
  have := run_storeCells_at (P := P) b off e (a.eval z).cells.toList 0 cs w hh (by simp only [Nat.add_zero]; omega) h1
  rw [Nat.add_zero, hsz] at this
  have hs' : (a.eval z).cells.size = sz := by simpa using hsz
  simp only [execOp, ha, Instr.storeAt, Instr.sureAddr, storeVar, bind, Pure.pure, Sem.bind, Sem.run_bind', szOf_run h2, Result.andThen, hs', ne_eq, not_true_eq_false, if_false, this, Sem.run]
theorem splice_eq {α : Type} (l : List α) (off k : Nat) (x : List α) (h : x.length = k) : splice l off x = l.take off ++ x ++ l.drop (off + k) := by unfold splice; rw [h]
theorem splice_get {α : Type} (l : List α) (off : Nat) (x : List α) (h : off + x.length ≤ l.length) (i : Nat) : (splice l off x)[i]? = if off ≤ i ∧ i < off + x.length then x[i - off]? else l[i]? := by
  unfold splice
  have hlen : (l.take off).length = off := by simp; omega
  by_cases h1 : i < off
  · rw [List.append_assoc, List.getElem?_append_left (by omega), List.getElem?_take, if_pos h1, if_neg (by omega)]
  · by_cases h2 : i < off + x.length
    · rw [List.append_assoc, List.getElem?_append_right (by omega), List.getElem?_append_left (by omega), hlen, if_pos (by omega)]
    · rw [List.getElem?_append_right (by simp; omega), List.getElem?_drop, if_neg (by omega)]
      congr 1
      simp; omega
theorem store_sound (h : Inv m w0 F0 K S a) (t : TypeId) (y z : Operand) (d : Option Nat) (ty : TypeId) (pos : String) (af : Array Edge) (gg : Option (Nat × Bool)) {os : List (Nat × Ob)}
    (hy : RT K (S.ev y) (a.eval y)) (hz : RT K (S.ev z) (a.eval z)) (ho : storeT P S t (S.ev y) (S.ev z) = some os) :
    ∃ K', (execOp a.eval ⟨d, .store t y z, ty, pos, af, gg⟩).run P K.w = .ok .skip K'.w ∧ Inv m w0 F0 K' { S with o := os } a := by
  unfold storeT at ho
  obtain ⟨sz, h1, ho⟩ := Option.bind_eq_some_iff.1 ho
  obtain ⟨v, h2, ho⟩ := Option.bind_eq_some_iff.1 ho
  split at ho
  · rename_i hc
    obtain ⟨hc1, hc2, hc3⟩ := hc
    have hv := cellsOf_sound h2 hz
    have hvl := RTs_length _ _ hv
    have hvs : (a.eval z).cells.size = sz := by rw [← hc1, ← hvl]; simp
    have hone : ∀ u ∈ (a.eval z).cells.toList, u.oneCell' = true := by
      intro u hu
      obtain ⟨i, hi, rfl⟩ := List.mem_iff_getElem.1 hu
      obtain ⟨u', h3, h4⟩ := RTs_get _ _ i v[i] hv (List.getElem?_eq_getElem (by omega))
      rw [List.getElem?_eq_getElem hi] at h3
      obtain rfl := Option.some.inj h3
      exact RT_one (List.all_eq_true.1 hc2 _ (List.getElem_mem _)) h4
    split at ho
    · rename_i p off ep
      rw [ep] at hy
      simp only [RT] at hy
      obtain ⟨b, sh, hs, ey⟩ := hy
      split at ho
      · rename_i l hl
        split at ho
        · rename_i hroom
          obtain rfl := Option.some.inj ho
          have hro := h.oi.objs p _ _ hl hs
          simp only [RO] at hro
          obtain ⟨b', cs, e, e1, hF, hb, hh, hr⟩ := hro
          obtain ⟨rfl, rfl⟩ := Prod.mk.inj (Option.some.inj e1)
          have hll := RTs_length _ _ hr
          simp only [Array.length_toList] at hll
          rw [Nat.zero_add] at ey
          have hrun := store_run (P := P) h1 y z d ty pos af gg ey (by omega) hone hh (by omega)
          refine ⟨K.setRow b _, hrun, h.write hl hs hF hb hh (by simp; omega) (y := .box (splice l off v)) (fun o => ?_) ?_ (.inl ⟨l, rfl, _, rfl⟩)⟩
          · rw [obj_setO]
            split
            · rename_i e; subst e; rw [hl]; rfl
            · cases obj S.o o <;> rfl
          · simp only [RO]
            refine ⟨b, _, e, rfl, hF, hb, setRow_heap _ _ _ _ _ _ hh, ?_⟩
            have hext := KExt.setRow (cs' := (cs.toList.take off ++ (a.eval z).cells.toList ++ cs.toList.drop (off + sz)).toArray) hF hb hh (by simp; omega)
            have := RTs.mono hext _ _ (RTs_splice hr hv off)
            rw [splice_eq cs.toList off sz _ (by omega)] at this
            simpa using this
        · simp at ho
      · rename_i l g gen hl
        split at ho
        · rename_i hroom
          split at ho
          · rename_i q hq
            obtain rfl := Option.some.inj ho
            have hro := h.oi.objs p _ _ hl hs
            simp only [RO] at hro
            rcases hro with ⟨e1, _⟩ | ⟨b', sh', cs, e, e1, hF, hb, hh, hr⟩
            · simp at e1
            · obtain ⟨rfl, rfl⟩ := Prod.mk.inj (Option.some.inj e1)
              obtain ⟨hql, hqr⟩ := toCs_sound (ob := obj S.o) h.oi.objs rfl (fz := []) hq (by simp) hv
              have hsize : sh + l.length ≤ cs.size := by
                rcases Nat.eq_zero_or_pos l.length with h0 | h0
                · omega
                · obtain ⟨u, hu, _⟩ := RCs_get _ _ (l.length - 1) l[l.length - 1] hr (List.getElem?_eq_getElem (by omega))
                  simp only [World.cell?, hh, Option.isSome, Bool.false_eq_true, if_false] at hu
                  have : sh + (l.length - 1) < cs.size := by
                    rcases Nat.lt_or_ge (sh + (l.length - 1)) cs.size with h' | h'
                    · exact h'
                    · simp [Array.getElem?_eq_none h'] at hu
                  omega
              have hrun := store_run (P := P) h1 y z d ty pos af gg ey (by omega) hone hh (by omega)
              refine ⟨K.setRow b _, hrun, h.write hl hs hF hb hh (by simp; omega) (y := .arr (splice l off q) g gen) (fun o => ?_) ?_ (.inr ⟨l, _, g, gen, rfl, rfl⟩)⟩
              · rw [obj_killG, obj_setO]
                split
                · rename_i e; subst e; rw [hl]; simp [kill1]
                · rename_i hne
                  cases obj S.o o with
                  | none => rfl
                  | some z => cases z <;> simp [kill1, kill2, hne]
              · simp only [RO]
                refine .inr ⟨b, sh, _, e, rfl, hF, hb, setRow_heap _ _ _ _ _ _ hh, ?_⟩
                refine RCs_mk (setRow_heap _ _ _ _ _ _ hh) sh _ fun i c hc => ?_
                have hext := KExt.setRow (cs' := (cs.toList.take (sh + off) ++ (a.eval z).cells.toList ++ cs.toList.drop (sh + off + sz)).toArray) hF hb hh (by simp; omega)
                have up : ∀ c u, RC K.w K.F c u → RC (K.setRow b (cs.toList.take (sh + off) ++ (a.eval z).cells.toList ++ cs.toList.drop (sh + off + sz)).toArray).w K.F c u := fun c u r => RC.mono (fun b h => h) (fun b h => hext.kept b (.inl h)) _ _ r
                rw [splice_get _ _ _ (by omega)] at hc
                have hg := splice_get cs.toList (sh + off) (a.eval z).cells.toList (by simp only [Array.length_toList] at hvl ⊢; omega) (sh + i)
                rw [splice_eq cs.toList (sh + off) sz _ (by omega)] at hg
                split at hc
                · rename_i hi
                  obtain ⟨u, hu, r⟩ := hqr _ _ hc
                  refine ⟨u, ?_, up _ _ (RC.mono (fun b hb => hb.elim id fun ⟨_, _, _, _, _, _, hx, _⟩ => by simp at hx) (fun _ _ => rfl) _ _ r)⟩
                  simp only [List.getElem?_toArray]
                  rw [hg, if_pos (by omega), show sh + i - (sh + off) = i - off by omega]; exact hu
                · rename_i hi
                  obtain ⟨u, hu, r⟩ := RCs_get _ _ _ _ hr hc
                  refine ⟨u, ?_, up _ _ r⟩
                  simp only [List.getElem?_toArray]
                  rw [hg, if_neg (by omega)]
                  simpa [World.cell?, hh] using hu
          · simp at ho
        · simp at ho
      · simp at ho
    · simp at ho
  · simp at ho
/-- A map's block is written. -/
def Ctx.setMap (K : Ctx) (b : Nat) (o : Obj) : Ctx := { K with w := { K.w with heap := K.w.heap.setIfInBounds b o } }
theorem setMap_other (K : Ctx) (b : Nat) (o : Obj) (c : Nat) (h : c ≠ b) : (K.setMap b o).w.heap[c]? = K.w.heap[c]? := by
  simp only [Ctx.setMap, Array.getElem?_setIfInBounds]; rw [if_neg (fun e => h e.symm)]
theorem setMap_heap (K : Ctx) (b : Nat) (o : Obj) (h : b < K.w.heap.size) : (K.setMap b o).w.heap[b]? = some o := by
  simp [Ctx.setMap, h]
theorem setMap_size (K : Ctx) (b : Nat) (o : Obj) : (K.setMap b o).w.heap.size = K.w.heap.size := by simp [Ctx.setMap]
theorem KExt.setMap {b : Nat} {o : Obj} {ents : Array MapEntry} {cl : Nat} (hF : ¬ K.F b) (hb : K.base ≤ b) (hh : K.w.heap[b]? = some (.map ents cl)) : KExt K (K.setMap b o) where
  base := rfl
  F := fun _ h => h
  σ := fun _ _ h => h
  kept := fun c hc => setMap_other _ _ _ _ (by rintro rfl; rcases hc with h | h; exact hF h; omega)
  sizes := fun c q e' fr' h => by
    by_cases hc : c = b
    · subst hc; rw [hh] at h; simp at h
    · exact ⟨q, e', fr', (setMap_other _ _ _ _ hc).trans h, rfl⟩
theorem Inv.writeMap (h : Inv m w0 F0 K S a) {p b sh : Nat} {es es' : List (Value × C × Nat)} {cl cl' : Nat} {ents : Array MapEntry} {o' : Obj} (hp : obj S.o p = some (.mp es cl)) (hs : K.σ p = some (some (b, sh))) (hF : ¬ K.F b) (hb : K.base ≤ b) (hh : K.w.heap[b]? = some (.map ents cl))
    {os : List (Nat × Ob)} (hos : ∀ o, obj os o = if o = p then some (.mp es' cl') else obj S.o o) (hy : RO (K.setMap b o') (some (b, sh)) (.mp es' cl')) : Inv m w0 F0 (K.setMap b o') { S with o := os } a := by
  have hext := KExt.setMap (o := o') hF hb hh
  have alias : ∀ o z b' sh' sh2, o ≠ p → obj S.o o = some z → K.σ o = some (some (b', sh')) → K.σ p = some (some (b', sh2)) → z = .dead := by
    intro o z b' sh' sh2 hne ho h1 h2
    rcases h.oi.alias o p z _ b' sh' sh2 ho hp h1 h2 with h3 | h3
    · exact absurd h3 hne
    · cases z <;> simp [Alias] at h3 ⊢
  exact {
    good := ⟨fun c hc => by rw [setMap_size]; exact h.good.F c hc, by rw [setMap_size]; exact h.good.base⟩
    base := h.base
    below := h.below.trans ⟨rfl, rfl, rfl, by rw [setMap_size]; exact Nat.le_refl _, fun k hk => setMap_other _ _ _ _ (by have := h.base; omega)⟩
    Fin := h.Fin
    Fout := h.Fout
    size := h.size
    defers := h.defers
    tm := fun t => RT.mono hext _ _ (h.tm t)
    oi := {
      objs := fun o z s ho hs' => by
        rw [hos] at ho
        split at ho
        · rename_i e; subst e
          obtain rfl := Option.some.inj ho
          have hs'' : K.σ o = some s := hs'
          rw [hs] at hs''; obtain rfl := Option.some.inj hs''
          exact hy
        · rename_i hne
          by_cases hzd : z = .dead
          · subst hzd; simp only [RO]
          · refine RO.mono hext (fun _ _ _ h => h) (fun b' sh' e => setMap_other _ _ _ _ ?_) (h.oi.objs o z s ho hs')
            rintro rfl
            exact hzd (alias o z b' sh' sh hne ho (by rw [← e]; exact hs') hs)
      dom := fun o z ho => by
        rw [hos] at ho
        split at ho
        · rename_i e; subst e; show K.σ o ≠ none; rw [hs]; simp
        · exact h.oi.dom o z ho
      alias := fun o o2 z1 z2 b1 sh1 sh2 ho ho' hs1 hs2 => by
        rw [hos] at ho ho'
        by_cases h1 : o = p
        · by_cases h2 : o2 = p
          · exact .inl (h1.trans h2.symm)
          · rw [if_neg h2] at ho'
            have := alias o2 z2 b1 sh2 sh1 h2 ho' hs2 (h1 ▸ hs1)
            subst this; right; cases z1 <;> simp [Alias]
        · rw [if_neg h1] at ho
          by_cases h2 : o2 = p
          · have := alias o z1 b1 sh1 sh2 h1 ho hs1 (h2 ▸ hs2)
            subst this; right; cases z2 <;> simp [Alias]
          · rw [if_neg h2] at ho'
            exact h.oi.alias o o2 z1 z2 b1 sh1 sh2 ho ho' hs1 hs2 }
    fresh := h.fresh
    grp := fun o l g e ho => by
      have ho2 : obj os o = _ := ho
      rw [hos] at ho2
      split at ho2
      · simp at ho2
      · exact h.grp o l g e ho2 }
theorem stays_run (k : IntKind) (i : Int) (w : World) : (Instr.keyThatStays (.int k i) (.int k i)).run P w = .ok (.int k i) w := by
  have : Instr.sameBits (9999 + 1) (.int k i) (.int k i) = true := by simp [Instr.sameBits]
  unfold Instr.keyThatStays
  rw [if_pos this]; rfl
theorem mapUpdate_run {t k e : TypeId} {kk : IntKind} (hu1 : P.underlying t = some (.map k e)) (hu2 : P.underlying k = some (.int kk)) {b : Nat} {ents : Array MapEntry} {cl : Nat} (hb : K.w.heap[b]? = some (.map ents cl)) {k1 : IntKind} {i1 : Int} {x : Value} {q : Option (Nat × Value)}
    (hq : Instr.findNow (.int kk) (.int k1 i1) ents.toList 0 = some q) (hkey : ∀ j v, q = some (j, v) → ∃ en, ents[j]? = some en ∧ en.key = .int k1 i1) :
    (Instr.mapUpdate t (.map (some b)) (.int k1 i1) x).run P K.w = .ok () (K.setMap b (match q with | some (j, _) => .map (ents.modify j fun en => { en with key := .int k1 i1, val := x }) cl | none => .map (ents.push { key := .int k1 i1, val := x, born := cl }) (cl + 1))).w := by
  have hc := checkKey_run (P := P) hu2 false 9999 (.int k1 i1) K.w
  have hlt := heap_lt hb
  have hset : ∀ o : Obj, (setObj b o).run P K.w = .ok () (K.setMap b o).w := fun o => by simp [setObj, Sem.run, hb, Ctx.setMap]
  simp only [Instr.mapUpdate, bind, Sem.run_bind', under_run hu1, Result.andThen, get_map hb, hc, findKey_run hu2 hq]
  cases q with
  | none => simp only [hset]
  | some p =>
    obtain ⟨j, v⟩ := p
    obtain ⟨en, h1, h2⟩ := hkey j v rfl
    simp only [h1, Option.map_some, Option.getD_some, h2, Sem.run_bind', stays_run, Result.andThen, hset]
theorem REs_length {w : World} {F : Nat → Prop} : ∀ {es : List (Value × C × Nat)} {l : List MapEntry}, REs w F es l → l.length = es.length
  | [], l, h => by simp only [REs] at h; subst h; rfl
  | x :: es, l, h => by simp only [REs] at h; obtain ⟨e, r, rfl, _, _, _, h⟩ := h; simp [REs_length h]
theorem REs_push {w : World} {F : Nat → Prop} {z : Value × C × Nat} {en : MapEntry} (h1 : en.key = z.1) (h2 : RC w F z.2.1 en.val) (h3 : en.born = z.2.2) : ∀ {es : List (Value × C × Nat)} {l : List MapEntry}, REs w F es l → REs w F (es ++ [z]) (l ++ [en])
  | [], l, h => by simp only [REs] at h; subst h; simp only [List.nil_append, REs]; exact ⟨en, [], rfl, h1, h2, h3, rfl⟩
  | x :: es, l, h => by simp only [REs] at h; obtain ⟨e, r, rfl, g1, g2, g3, h⟩ := h; simp only [List.cons_append, REs]; exact ⟨e, r ++ [en], rfl, g1, g2, g3, REs_push h1 h2 h3 h⟩
theorem REs_modify {w : World} {F : Nat → Prop} {c : C} {kv v : Value} (hr : RC w F c v) : ∀ {es : List (Value × C × Nat)} {l : List MapEntry} (j : Nat), (∀ x, es[j]? = some x → kv = x.1) → REs w F es l → REs w F (es.modify j fun y => (y.1, c, y.2.2)) (l.modify j fun en => { en with key := kv, val := v })
  | [], l, j, _, h => by simp only [REs] at h; subst h; simp [REs]
  | x :: es, l, 0, hk, h => by
    simp only [REs] at h; obtain ⟨e, r, rfl, g1, g2, g3, h⟩ := h
    simp only [List.modify_zero_cons, REs]
    exact ⟨_, r, rfl, hk x (by simp), hr, g3, h⟩
  | x :: es, l, j + 1, hk, h => by
    simp only [REs] at h; obtain ⟨e, r, rfl, g1, g2, g3, h⟩ := h
    simp only [List.modify_succ_cons, REs]
    exact ⟨e, _, rfl, g1, g2, g3, REs_modify hr j (fun x hx => hk x (by simpa using hx)) h⟩
theorem mapUpdate_sound {E : Env} (h : Inv m w0 F0 K S a) (t : TypeId) (p k x : Operand) (d : Option Nat) (ty : TypeId) (pos : String) (af : Array Edge) (gg : Option (Nat × Bool)) (hy : RT K (S.ev p) (a.eval p)) (hk : RT K (S.ev k) (a.eval k)) (hx : RT K (S.ev x) (a.eval x)) {os : List (Nat × Ob)}
    (ho : mapUpdateT E.P S t (S.ev p) (S.ev k) (S.ev x) = some os) : ∃ K', (execOp a.eval ⟨d, .mapUpdate t p k x, ty, pos, af, gg⟩).run E.P K.w = .ok .skip K'.w ∧ Inv m w0 F0 K' { S with o := os } a := by
  unfold mapUpdateT at ho
  obtain ⟨e, h1, ho⟩ := Option.bind_eq_some_iff.1 ho
  obtain ⟨kt, kk, hu1, hu2⟩ := isIntMap_run h1
  split at ho
  · rename_i q k1 i1 c e1 e2 e3
    rw [e1] at hy; rw [e2] at hk; rw [e3] at hx
    have hk := RT_v hk
    simp only [RT] at hy hx
    obtain ⟨b, sh, hs, hy⟩ := hy
    split at ho
    · rename_i es cl hob
      have hro := h.oi.objs q _ _ hob hs
      simp only [RO] at hro
      obtain ⟨b', ents, h3, hF, hb, h4, h5, h6⟩ := hro
      obtain ⟨rfl, rfl⟩ := Prod.mk.inj (Option.some.inj h3)
      obtain ⟨r, h7, rfl⟩ := Option.map_eq_some_iff.1 ho
      obtain ⟨fq, h8, h9, h10⟩ := keyIx_run (kk := kk) h5 h7
      have hkey : ∀ j v, fq = some (j, v) → ∃ en, ents[j]? = some en ∧ en.key = .int k1 i1 := by
        intro j v hj
        have hr : r = some j := by rw [← h9, hj]; rfl
        obtain ⟨_, en, x', g1, g2, g3, g4, g5, g6, _⟩ := h10 j hr
        exact ⟨en, by simpa using g1, by rw [g5, g6]⟩
      have hrun := mapUpdate_run (P := E.P) (x := a.eval x) hu1 hu2 h4 h8 hkey
      refine ⟨_, (by
        simp only [execOp]
        rw [hy, hk]
        show (Sem.bind _ _).run E.P K.w = _
        rw [Sem.run_bind', hrun]; rfl), ?_⟩
      · have hext := fun o' : Obj => KExt.setMap (o := o') hF hb h4
        have hre : ∀ o' : Obj, REs (K.setMap b o').w (K.setMap b o').F es ents.toList := fun o' => REs.mono (fun _ h => h) (fun c hc => (hext o').kept c (.inl hc)) _ _ h5
        have hrc : ∀ o' : Obj, RC (K.setMap b o').w (K.setMap b o').F c (a.eval x) := fun o' => RC.mono (fun _ h => h) (fun c hc => (hext o').kept c (.inl hc)) _ _ hx
        cases hr : r with
        | some j =>
          rw [hr] at h9
          cases fq with
          | none => simp at h9
          | some pp =>
            obtain ⟨j', v'⟩ := pp
            simp at h9; subst h9
            obtain ⟨_, en, x', g1, g2, g3, g4, g5, g6, _⟩ := h10 j' hr
            refine h.writeMap hob hs hF hb h4 (es' := es.modify j' fun y => (y.1, c, y.2.2)) (cl' := cl) (fun o => ?_) ?_
            · rw [obj_setO]; split
              · rename_i e; subst e; rw [hob]; rfl
              · rfl
            · simp only [RO]
              refine ⟨b, _, rfl, hF, hb, setMap_heap _ _ _ (heap_lt h4), ?_, ?_⟩
              · rw [Array.toList_modify]
                exact REs_modify (hrc _) j' (fun x hx => by simp only [Nat.sub_zero] at g2; rw [g2] at hx; obtain rfl := Option.some.inj hx; exact g6) (hre _)
              · intro y hy'
                obtain ⟨i, hi⟩ := List.getElem?_of_mem hy'
                rw [List.getElem?_modify] at hi
                obtain ⟨z, hz1, hz2⟩ := Option.map_eq_some_iff.1 hi
                have := h6 z (List.mem_of_getElem? hz1)
                rw [← hz2]; split <;> simpa using this
        | none =>
          rw [hr] at h9
          cases fq with
          | some pp => simp at h9
          | none =>
            refine h.writeMap hob hs hF hb h4 (es' := es ++ [(.int k1 i1, c, cl)]) (cl' := cl + 1) (fun o => ?_) ?_
            · rw [obj_setO]; split
              · rename_i e; subst e; rw [hob]; rfl
              · rfl
            · simp only [RO]
              refine ⟨b, _, rfl, hF, hb, setMap_heap _ _ _ (heap_lt h4), ?_, ?_⟩
              · rw [Array.toList_push]
                exact REs_push rfl (hrc _) rfl (hre _)
              · intro y hy'
                rcases List.mem_append.1 hy' with h' | h'
                · have := h6 y h'; omega
                · simp at h'; subst h'; simp
    · simp at ho
  · simp at ho
theorem opW_sound {E : Env} (h : Inv m w0 F0 K S a) (o : Oper) {os : List (Nat × Ob)} (ho : opW E S o = some os) : ∃ K', (execOp a.eval o).run E.P K.w = .ok .skip K'.w ∧ Inv m w0 F0 K' { S with o := os } a := by
  obtain ⟨d, op, ty, pos, af, gg⟩ := o
  have ev : ∀ x, RT K (S.ev x) (a.eval x) := fun x => RT_ev fun t _ => h.tm t
  cases op <;> simp only [opW] at ho
  case store t y z => exact store_sound h t y z d ty pos af gg (ev y) (ev z) ho
  case mapUpdate t p k x => exact mapUpdate_sound h t p k x d ty pos af gg (ev p) (ev k) (ev x) ho
  all_goals simp at ho
end
end Go.Proofs.YtnbijiopcgfmfaaGreat.Tev
/- Regions, in their text's order. -/
namespace Go.Proofs.YtnbijiopcgfmfaaGreat.Tev
open Go Go.RowKit
set_option linter.unusedSectionVars false
set_option linter.unusedVariables false
set_option linter.unusedSimpArgs false
theorem getD_some {a : Array Value} {d : Nat} {v : Value} (h : a.getD d undef = v) (hv : v ≠ undef) : a[d]? = some v := by
  rw [Array.getD_eq_getD_getElem?] at h
  cases hd : a[d]? with
  | none => rw [hd] at h; exact absurd h.symm hv
  | some u => rw [hd] at h; simp at h; rw [h]
theorem yielded_bool {ops : Array Oper} {a : Array Value} {g d : Nat} {b : Bool} (hg : gtmp ops g = some d) (h : a.getD d undef = .bool b) : yielded ops a g = some b := by
  unfold gtmp at hg
  unfold yielded
  rw [hg]
  simp only [Option.bind_some, getD_some h (by simp [undef])]
theorem yielded_und {ops : Array Oper} {a : Array Value} {g d : Nat} (hg : gtmp ops g = some d) (h : a.getD d undef = undef) : yielded ops a g = none := by
  unfold gtmp at hg
  unfold yielded
  rw [hg]
  simp only [Option.bind_some]
  rw [Array.getD_eq_getD_getElem?] at h
  cases hd : a[d]? with
  | none => rfl
  | some u => rw [hd] at h; simp at h; subst h; rfl
section
variable {E : Env} {cl : FuncId → List T → Option R} {m : Nat} {w0 : World} {F0 : Nat → Prop} {K : Ctx} {S S' : St} {a : Act}
/-- One operation, one after the other. -/
theorem opA_sound (hcl : CallOK E.P cl) {dr : Bool} (h : Inv m w0 F0 K S a) {o : Oper} (hd : ∀ t, o.dst = some t → t < m) (ho : opA E cl dr S o = some S') {next : Act → World → Prop} {Q : Exit → Act → World → Prop}
    (hn : ∀ K' a', Inv m w0 F0 K' S' a' → next a' K'.w) : o.wp E.P a K.w next Q := by
  unfold opA at ho
  split at ho
  · obtain ⟨os, h1, rfl⟩ := Option.map_eq_some_iff.1 ho
    obtain ⟨K', hr, hi⟩ := opW_sound h o h1
    unfold Oper.wp
    rw [hr, Oper.upon_skip]
    exact hn K' _ (hi.put o.dst hd (by simp only [RT]))
  · obtain ⟨⟨x, nw, fz⟩, h1, h2⟩ := Option.bind_eq_some_iff.1 ho
    have hs := opN_sound hcl h.good h.oi.objs o (fun i hi => h.fresh _ (by omega)) (fun z _ => RT_ev fun t _ => h.tm t) h1
    refine hs.wp fun val K' st => ?_
    cases hf : frOk dr fz with
    | false => simp [hf] at h2
    | true =>
      simp [hf] at h2; subst h2
      exact hn K' _ ((h.step h1 st).put o.dst hd st.val)
theorem tops_seq (hcl : CallOK E.P cl) {dr : Bool} {ops : Array Oper} {Q : Exit → Act → World → Prop} : ∀ (l : List Oper) {K : Ctx} {S : St} {a : Act}, Inv m w0 F0 K S a → (∀ o ∈ l, ∀ t, o.dst = some t → t < m) → tops E cl dr ops l S = some S' →
    (∀ K' a', Inv m w0 F0 K' S' a' → Q .normal a' K'.w) → wpList E.P ops Q l a K.w
  | [], K, S, a, h, _, ht, hq => by
    simp only [tops, Option.some.injEq] at ht; subst ht
    exact hq K a h
  | o :: l, K, S, a, h, hd, ht, hq => by
    have hd0 := hd o (by simp)
    have hdl : ∀ o ∈ l, ∀ t, o.dst = some t → t < m := fun o ho => hd o (by simp [ho])
    have run : ∀ {K : Ctx} {S : St}, Inv m w0 F0 K S a → (opA E cl dr S o).bind (tops E cl dr ops l) = some S' → o.wp E.P a K.w (wpList E.P ops Q l) Q := by
      intro K S h hh
      obtain ⟨S1, h1, h2⟩ := Option.bind_eq_some_iff.1 hh
      exact opA_sound hcl h hd0 h1 fun K' a' hi => tops_seq hcl l hi hdl h2 hq
    have skip : ∀ {K : Ctx} {S : St}, Inv m w0 F0 K S a → tops E cl dr ops l (S.putO o.dst .und) = some S' → wpList E.P ops Q l (a.put o.dst undef) K.w := by
      intro K S h hh
      exact tops_seq hcl l (h.put o.dst hd0 (by simp only [RT])) hdl hh hq
    simp only [tops, opG] at ht
    unfold wpList
    cases hg : o.guard with
    | none =>
      rw [hg] at ht
      simp only at ht
      rw [if_pos (by simp [Region.wanted, hg])]
      exact .inl (run h ht)
    | some gw =>
      obtain ⟨g, want⟩ := gw
      rw [hg] at ht
      simp only at ht
      split at ht
      · simp at ht
      · rename_i d hgd
        split at ht
        · rename_i b hb
          have hv := h.tm d
          rw [hb] at hv
          have hy := yielded_bool (ops := ops) hgd (RT_v hv)
          have hre := h.reput hb
          have hw : Region.wanted o (yielded ops a.tmps) = (b == want) := by simp [Region.wanted, hg, hy]
          rw [hw]
          cases b <;> cases want <;> simp only [cond_true, cond_false] at ht <;> simp only [beq_self_eq_true, if_true, Bool.false_eq_true, if_false, BEq.beq, decide_true, decide_false, Bool.true_eq_false, reduceCtorEq]
          · exact .inl (run hre ht)
          · exact skip hre ht
          · exact skip hre ht
          · exact .inl (run hre ht)
        · rename_i hb
          have hv := h.tm d
          rw [hb] at hv
          simp only [RT] at hv
          have hy := yielded_und (ops := ops) hgd hv
          rw [if_neg (by simp [Region.wanted, hg, hy])]
          exact skip h ht
        · simp at ht
end
end Go.Proofs.YtnbijiopcgfmfaaGreat.Tev
/- Regions whose order is drawn: every order comes to what the text's order comes to. -/
namespace Go.Proofs.YtnbijiopcgfmfaaGreat.Tev
open Go Go.RowKit
set_option linter.unusedSectionVars false
set_option linter.unusedVariables false
set_option linter.unusedSimpArgs false

/-! What comes ahead of what. -/
/-- A set of operations that holds what comes ahead of each of its own. -/
def Closed (ops : Array Oper) (D : Nat → Prop) : Prop := ∀ i o, ops[i]? = some o → D i → ∀ e ∈ o.after.toList, Region.binds .any e = true → D e.on
def mask (acc : List Nat) (o : Oper) : Nat := o.after.toList.foldl (fun s e => if Region.binds .any e then s ||| 2 ^ e.on ||| acc.getD e.on 0 else s) 0
theorem mask_bits (acc : List Nat) (D : Nat → Prop) (hacc : ∀ i j, D i → (acc.getD i 0).testBit j = true → D j) : ∀ (es : List Edge) (s : Nat), (∀ e ∈ es, Region.binds .any e = true → D e.on) → (∀ j, s.testBit j = true → D j) →
    ∀ j, (es.foldl (fun s e => if Region.binds .any e then s ||| 2 ^ e.on ||| acc.getD e.on 0 else s) s).testBit j = true → D j
  | [], s, _, hs, j, h => hs j h
  | e :: es, s, he, hs, j, h => by
    simp only [List.foldl_cons] at h
    refine mask_bits acc D hacc es _ (fun e' h' => he e' (by simp [h'])) ?_ j h
    intro j hj
    split at hj
    · rename_i hb
      simp only [Nat.testBit_or, Bool.or_eq_true, Nat.testBit_two_pow, decide_eq_true_eq] at hj
      rcases hj with (h1 | h1) | h1
      · exact hs j h1
      · subst h1; exact he e (by simp) hb
      · exact hacc _ _ (he e (by simp) hb) h1
    · exact hs j hj
theorem ancs_eq : ∀ (l : List Oper) (acc : List Nat), ∃ r, ancs l acc = acc ++ r ∧ r.length = l.length
  | [], acc => ⟨[], by simp [ancs], rfl⟩
  | o :: l, acc => by
    obtain ⟨r, h1, h2⟩ := ancs_eq l (acc ++ [mask acc o])
    exact ⟨mask acc o :: r, by simp only [ancs]; exact h1.trans (by simp), by simp [h2]⟩
theorem ancs_at : ∀ (l : List Oper) (acc : List Nat) (k : Nat) (o : Oper), l[k]? = some o → (ancs l acc).getD (acc.length + k) 0 = mask ((ancs l acc).take (acc.length + k)) o
  | [], acc, k, o, h => by simp at h
  | x :: l, acc, 0, o, h => by
    simp at h; subst h
    obtain ⟨r, h1, _⟩ := ancs_eq l (acc ++ [mask acc x])
    have : ancs (x :: l) acc = acc ++ (mask acc x :: r) := by simp only [ancs]; exact h1.trans (by simp)
    rw [this]
    simp
  | x :: l, acc, k + 1, o, h => by
    have := ancs_at l (acc ++ [mask acc x]) k o (by simpa using h)
    simp only [List.length_append, List.length_singleton] at this
    rw [show acc.length + (k + 1) = acc.length + 1 + k by omega]
    exact this
/-- The bits of an operation are ahead of it in every closed set. -/
theorem ancs_closed {ops : Array Oper} (hdown : ∀ i o, ops[i]? = some o → ∀ e ∈ o.after.toList, Region.binds .any e = true → e.on < i) {D : Nat → Prop} (hD : Closed ops D) :
    ∀ (i : Nat) (o : Oper), ops[i]? = some o → (∀ e ∈ o.after.toList, Region.binds .any e = true → D e.on) → ∀ j, ((ancs ops.toList []).getD i 0).testBit j = true → D j := by
  intro i
  induction i using Nat.strongRecOn with
  | _ i ih =>
    intro o ho he j hj
    have h1 := ancs_at ops.toList [] i o (by simpa using ho)
    simp only [List.length_nil, Nat.zero_add] at h1
    rw [h1] at hj
    refine mask_bits _ D (fun k j hk hb => ?_) o.after.toList 0 he (fun j h => by simp at h) j hj
    have hki : ((ancs ops.toList []).take i).getD k 0 = if k < i then (ancs ops.toList []).getD k 0 else 0 := by
      simp only [List.getD_eq_getElem?_getD, List.getElem?_take]
      split <;> simp
    rw [hki] at hb
    split at hb
    · rename_i hlt
      obtain ⟨ok, hok⟩ : ∃ ok, ops[k]? = some ok := by
        have : i < ops.size := by rcases Nat.lt_or_ge i ops.size with h' | h'; exact h'; simp [Array.getElem?_eq_none h'] at ho
        exact ⟨ops[k], Array.getElem?_eq_getElem (by omega)⟩
      exact ih k hlt ok hok (fun e h h' => hD k ok hok hk e h h') j hb
    · simp at hb

section
variable {E : Env} {cl : FuncId → List T → Option R} {ops : Array Oper}
/-- What one operation does to a state. -/
inductive Eff (E : Env) (cl : FuncId → List T → Option R) (ops : Array Oper) (S : St) (o : Oper) (S1 : St) : Prop where
  /-- a bool that guards -/
  | run (Sg : St) (hg : ∀ t, get Sg.t t = get S.t t) (ho : Sg.o = S.o) (hn : Sg.n = S.n) (hw : match o.guard with | none => True | some (g, want) => ∃ d, gtmp ops g = some d ∧ get S.t d = B want) (h : opA E cl true Sg o = some S1)
  | skip (hg : ∀ t, get S1.t t = get (S.putO o.dst .und).t t) (ho : S1.o = S.o) (hn : S1.n = S.n) (hw : ∃ g want d, o.guard = some (g, want) ∧ gtmp ops g = some d ∧ (get S.t d = .und ∨ get S.t d = B (!want)))
theorem get_reput {S : St} {d : Nat} {x : T} (h : get S.t d = x) (t : Nat) : get (S.put d x).t t = get S.t t := by
  rw [get_put]; split
  · rename_i e; subst e; exact h.symm
  · rfl
theorem opG_eff {S S1 : St} {o : Oper} (h : opG E cl true ops S o some = some S1) : Eff E cl ops S o S1 := by
  unfold opG at h
  split at h
  · rename_i hg
    obtain ⟨S2, h1, h2⟩ := Option.bind_eq_some_iff.1 h
    obtain rfl := Option.some.inj h2
    exact .run S (fun _ => rfl) rfl rfl (by rw [hg]; trivial) h1
  · rename_i g want hg
    split at h
    · simp at h
    · rename_i d hd
      split at h
      · rename_i b hb
        have skp : ∀ b', get S.t d = B b' → S1 = (S.put d (B b')).putO o.dst .und → (B b' = B (!want)) → Eff E cl ops S o S1 := fun b' h1 h2 h3 => by
          subst h2
          refine .skip (fun t => ?_) (by cases o.dst <;> rfl) (by cases o.dst <;> rfl) ⟨g, want, d, hg, hd, .inr (by rw [h1, h3])⟩
          cases o.dst with
          | none => exact get_reput h1 t
          | some q => show get ((S.put d (B b')).put q .und).t t = get (S.put q .und).t t; rw [get_put (S.put d (B b')) q .und t, get_put S q .und t, get_reput h1]
        cases b <;> cases want <;> simp only [cond_true, cond_false] at h
        · obtain ⟨S2, h1, h2⟩ := Option.bind_eq_some_iff.1 h
          obtain rfl := Option.some.inj h2
          exact .run _ (get_reput hb) rfl rfl (by rw [hg]; exact ⟨d, hd, hb⟩) h1
        · exact skp false hb (Option.some.inj h).symm rfl
        · exact skp true hb (Option.some.inj h).symm rfl
        · obtain ⟨S2, h1, h2⟩ := Option.bind_eq_some_iff.1 h
          obtain rfl := Option.some.inj h2
          exact .run _ (get_reput hb) rfl rfl (by rw [hg]; exact ⟨d, hd, hb⟩) h1
      · rename_i hb
        obtain rfl := Option.some.inj h
        exact .skip (fun _ => rfl) (by cases o.dst <;> rfl) (by cases o.dst <;> rfl) ⟨g, want, d, hg, hd, .inl hb⟩
      · simp at h
theorem opG_bind (dr : Bool) (S : St) (o : Oper) (k : St → Option St) : opG E cl dr ops S o k = (opG E cl dr ops S o some).bind k := by
  unfold opG
  have bb : ∀ (x : Option St), x.bind k = (x.bind some).bind k := fun x => by cases x <;> rfl
  split
  · exact bb _
  · split
    · rfl
    · split
      · rename_i g want _ _ d _ _ b _
        cases b <;> cases want <;> simp only [cond_true, cond_false, Option.bind_some] <;> first | exact bb _ | rfl
      · rfl
      · rfl
/-- The states one after the other. -/
theorem tops_hist : ∀ (l : List Oper) (S S' : St), tops E cl true ops l S = some S' → ∃ H : Nat → St, H 0 = S ∧ H l.length = S' ∧ ∀ i o, l[i]? = some o → Eff E cl ops (H i) o (H (i + 1))
  | [], S, S', h => by
    simp only [tops, Option.some.injEq] at h; subst h
    exact ⟨fun _ => S, rfl, rfl, fun i o hi => by simp at hi⟩
  | o :: l, S, S', h => by
    simp only [tops] at h
    rw [opG_bind] at h
    obtain ⟨S1, h1, h2⟩ := Option.bind_eq_some_iff.1 h
    obtain ⟨H, hH0, hHn, hH⟩ := tops_hist l S1 S' h2
    refine ⟨fun i => match i with | 0 => S | i + 1 => H i, rfl, hHn, fun i o' hi => ?_⟩
    cases i with
    | zero => simp at hi; subst hi; simp only; rw [hH0]; exact opG_eff h1
    | succ i => exact hH i o' (by simpa using hi)
end
end Go.Proofs.YtnbijiopcgfmfaaGreat.Tev
