/- What holds between a state and the world, from operation to operation. -/
import Derived.Test.YtnbijiopcgfmfaaTevN
namespace Go.Proofs.Ytnbijiopcgfmfaa.Tev
open Go Go.RowKit
set_option linter.unusedSectionVars false
set_option linter.unusedVariables false
set_option linter.unusedSimpArgs false

/-- Two objects in one block. -/
def Alias (x y : Ob) (sh sh' : Nat) : Prop :=
  match x, y with
  | .arr l g e, .arr l' g' e' => g = g' ∧ sh = sh' ∧ (e ≤ e' → 0 < e' → l.length ≤ l'.length) ∧ (e' ≤ e → 0 < e → l'.length ≤ l.length)
  | .fz _, .fz _ => True
  | .dead, _ => True
  | _, .dead => True
  | _, _ => False
theorem Alias.symm {x y : Ob} {sh sh' : Nat} (h : Alias x y sh sh') : Alias y x sh' sh := by
  cases x <;> cases y <;> simp_all [Alias]

structure OInv (K : Ctx) (ob : Nat → Option Ob) : Prop where
  objs : ∀ o x s, ob o = some x → K.σ o = some s → RO K s x
  dom : ∀ o x, ob o = some x → K.σ o ≠ none
  alias : ∀ o o' x x' b sh sh', ob o = some x → ob o' = some x' → K.σ o = some (some (b, sh)) → K.σ o' = some (some (b, sh')) → o = o' ∨ Alias x x' sh sh'

def frzs : List Nat → Ob → Ob
  | [], x => x
  | g :: r, x => frzs r (frz1 g x)
theorem obj_frzG (g : Nat) : ∀ (l : List (Nat × Ob)) (o : Nat), obj (frzG g l) o = (obj l o).map (frz1 g)
  | [], o => rfl
  | (k, x) :: l, o => by simp only [frzG, obj]; split <;> simp [obj_frzG g l o]
theorem obj_frzGs : ∀ (fz : List Nat) (l : List (Nat × Ob)) (o : Nat), obj (frzGs fz l) o = (obj l o).map (frzs fz)
  | [], l, o => by cases h : obj l o <;> simp [frzGs, frzs, h]
  | g :: r, l, o => by
    simp only [frzGs]
    rw [obj_frzGs r, obj_frzG]
    cases obj l o <;> rfl
theorem obj_addO (n : Nat) : ∀ (nw : List Ob) (l : List (Nat × Ob)) (o : Nat), obj (addO n nw ++ l) o = if n ≤ o ∧ o < n + nw.length then nw[o - n]? else obj l o := by
  intro nw
  induction nw generalizing n with
  | nil => intro l o; simp [addO]; intro h h'; omega
  | cons x nw ih =>
    intro l o
    simp only [addO, List.cons_append, obj]
    by_cases h : n = o
    · subst h; simp
    · rw [if_neg h, ih (n + 1) l o]
      by_cases h' : n + 1 ≤ o ∧ o < n + 1 + nw.length
      · rw [if_pos h', if_pos (by simp; omega), show o - n = (o - (n + 1)) + 1 by omega]; simp
      · rw [if_neg h', if_neg (by simp; omega)]
theorem frzs_arr : ∀ (fz : List Nat) (l : List C) (g e : Nat), frzs fz (.arr l g e) = if g ∈ fz then .fz l else .arr l g e
  | [], l, g, e => by simp [frzs]
  | h :: r, l, g, e => by
    have fzs : ∀ (r : List Nat), frzs r (.fz l) = .fz l := by intro r; induction r with | nil => rfl | cons a r ih => exact ih
    by_cases hg : g = h
    · subst hg; simp only [frzs, frz1, if_true, fzs]; simp
    · simp only [frzs, frz1, if_neg hg, frzs_arr r]; simp [hg]
theorem frzs_other (fz : List Nat) (x : Ob) (h : ∀ l g e, x ≠ .arr l g e) : frzs fz x = x := by
  induction fz with
  | nil => rfl
  | cons g r ih => cases x <;> first | exact ih | exact absurd rfl (h _ _ _)

/-- The place of an object lies in the world. -/
theorem RO.lt {K : Ctx} (hg : Good K) {b sh : Nat} {x : Ob} (h : RO K (some (b, sh)) x) (hd : x ≠ .dead) : b < K.w.heap.size := by
  cases x with
  | box l => simp only [RO] at h; obtain ⟨b', cs, e, h1, _, _, h2, _⟩ := h; obtain ⟨rfl, rfl⟩ := Prod.mk.inj (Option.some.inj h1); exact heap_lt h2
  | arr l g e =>
    simp only [RO] at h
    rcases h with ⟨h, _⟩ | ⟨b', sh', cs, e, h1, _, _, h2, _⟩
    · simp at h
    · obtain ⟨rfl, rfl⟩ := Prod.mk.inj (Option.some.inj h1); exact heap_lt h2
  | fz l =>
    simp only [RO] at h
    rcases h with ⟨h, _⟩ | ⟨b', sh', h1, h2, _⟩
    · simp at h
    · obtain ⟨rfl, rfl⟩ := Prod.mk.inj (Option.some.inj h1); exact hg.F _ h2
  | mp es cl => simp only [RO] at h; obtain ⟨b', ents, h1, _, _, h2, _⟩ := h; obtain ⟨rfl, rfl⟩ := Prod.mk.inj (Option.some.inj h1); exact heap_lt h2
  | dead => exact absurd rfl hd
theorem Alias.frz {x y : Ob} {sh sh' : Nat} (h : Alias x y sh sh') (fz : List Nat) : Alias (frzs fz x) (frzs fz y) sh sh' := by
  cases x with
  | arr l g e =>
    cases y with
    | arr l' g' e' =>
      have hg : g = g' := by simp [Alias] at h; exact h.1
      subst hg
      rw [frzs_arr, frzs_arr]
      split
      · simp [Alias]
      · exact h
    | dead => rw [frzs_other fz .dead (by simp), frzs_arr]; split <;> simp [Alias]
    | _ => simp [Alias] at h
  | fz l =>
    cases y with
    | fz l' => rw [frzs_other fz (.fz l) (by simp), frzs_other fz (.fz l') (by simp)]; exact h
    | dead => rw [frzs_other fz .dead (by simp), frzs_other fz (.fz l) (by simp)]; exact h
    | _ => simp [Alias] at h
  | dead =>
    rw [frzs_other fz .dead (by simp)]
    cases y with
    | arr l' g' e' => rw [frzs_arr]; split <;> simp [Alias]
    | _ => simp [Alias]
  | box l => cases y <;> simp [Alias] at h; rw [frzs_other fz .dead (by simp), frzs_other fz (.box l) (by simp)]; simp [Alias]
  | mp es cl => cases y <;> simp [Alias] at h; rw [frzs_other fz .dead (by simp), frzs_other fz (.mp es cl) (by simp)]; simp [Alias]

/-- The objects behind an operation. -/
theorem OInv.step {K K' : Ctx} {obS obD : Nat → Option Ob} {n : Nat} {x : T} {nw : List Ob} {fz : List Nat} {val : Value} (hg : Good K) (hI : OInv K obD) (hS : ∀ o y s, obS o = some y → K.σ o = some s → obD o = some y) (hSD : fz ≠ [] → ∀ o y, obD o = some y → obS o = some y)
    (hn : ∀ i, i < nw.length → K.σ (n + i) = none) (hnd : ∀ y, y ∈ nw → y ≠ .dead)
    (htip : ∀ o l l' g gen, nw = [.arr l' g (gen + 1)] → obS o = some (.arr l g gen) → 0 < gen → ∀ o' y g' e', obD o' = some (.arr y g' e') → g' = g → e' ≤ gen)
    (st : Step K n obS x nw fz K' val) : OInv K' (fun o => if n ≤ o ∧ o < n + nw.length then nw[o - n]? else (obD o).map (frzs fz)) := by
  have hσ : ∀ o y, obD o = some y → ∃ s, K.σ o = some s ∧ K'.σ o = some s := fun o y h => by
    cases hs : K.σ o with
    | none => exact absurd hs (hI.dom o y h)
    | some s => exact ⟨s, rfl, st.ext.σ o s hs⟩
  have hnew : ∀ o, n ≤ o ∧ o < n + nw.length → obD o = none := fun o ho => by
    cases h : obD o with
    | none => rfl
    | some y =>
      have := hn (o - n) (by omega)
      rw [show n + (o - n) = o by omega] at this
      exact absurd this (hI.dom o y h)
  -- old objects stay
  have hold : ∀ o y s, obD o = some y → K.σ o = some s → RO K' s (frzs fz y) := by
    intro o y s ho hs
    have hro := hI.objs o y s ho hs
    -- the cells of a row stay
    have hcells : ∀ b sh l, s = some (b, sh) → RCs K.w K.F b sh l → (∃ g e, y = .arr l g e) ∨ y = .fz l → RCs K'.w K'.F b sh l := by
      intro b sh l e hr hy
      have hdead : y ≠ .dead := by rcases hy with ⟨g, e, rfl⟩ | rfl <;> simp
      have hlt : b < K.w.heap.size := RO.lt hg (e ▸ hro) hdead
      rcases st.kept with hk | ⟨o2, l2, l', g2, gen, b2, sh2, cs, cs', e2, hfz, h1, h2, h3, h4, h5, h6, h7, h8⟩
      · exact RCs.mono st.ext.F (fun b hb => hk b (hg.F b hb)) b (hk b hlt) _ _ hr
      · by_cases hb : b = b2
        · subst hb
          have hal := hI.alias o o2 y _ b sh sh2 ho (hS o2 _ _ h2 h4) (by rw [hs, e]) h4
          have hy2 : ∃ g e, y = .arr l g e ∧ l.length ≤ l2.length ∧ sh = sh2 := by
            rcases hal with rfl | hal
            · have := hS o _ _ h2 h4
              rw [ho] at this
              obtain rfl := Option.some.inj this
              rw [hs] at h4
              rw [e] at h4
              simp at h4
              rcases hy with ⟨g, e, hh⟩ | hh
              · simp at hh; obtain ⟨rfl, rfl, rfl⟩ := hh; exact ⟨_, _, rfl, Nat.le_refl _, h4⟩
              · simp at hh
            · rcases hy with ⟨g, e, rfl⟩ | rfl
              · simp only [Alias] at hal
                refine ⟨g, e, rfl, hal.2.2.1 (htip o2 l2 l' g2 gen h1 h2 h3 o l g e ho hal.1) h3, hal.2.1⟩
              · simp [Alias] at hal
          obtain ⟨g, e3, rfl, hle, rfl⟩ := hy2
          have hF : ∀ c, K.F c → K'.w.heap[c]? = K.w.heap[c]? := fun c hc => by
            refine h5 c (hg.F c hc) ?_
            rintro rfl
            simp only [RO] at hro
            rcases hro with ⟨q, _⟩ | ⟨b', sh', cs, et, q1, q2, _⟩
            · rw [e] at q; simp at q
            · rw [e] at q1; obtain ⟨rfl, rfl⟩ := Prod.mk.inj (Option.some.inj q1); exact q2 hc
          refine RCs_of_get _ _ fun i c hc => ?_
          obtain ⟨u, hu, r⟩ := RCs_get _ _ _ _ hr hc
          have hi : i < l.length := by rcases Nat.lt_or_ge i l.length with h' | h'; exact h'; simp [h'] at hc
          refine ⟨u, ?_, RC.mono st.ext.F hF _ _ r⟩
          rw [← hu]
          simp only [World.cell?, h6, h7, Option.isSome, Bool.false_eq_true, if_false]
          exact h8 _ (by omega)
        · exact RCs.mono st.ext.F (fun c hc => st.ext.kept c (.inl hc)) b (h5 b hlt hb) _ _ hr
    have hblock : ∀ b sh, s = some (b, sh) → (∀ l g e, y ≠ .arr l g e) → y ≠ .dead → K'.w.heap[b]? = K.w.heap[b]? := by
      intro b sh e hna hnd'
      have hlt : b < K.w.heap.size := RO.lt hg (e ▸ hro) hnd'
      rcases st.kept with hk | ⟨o2, l2, l', g2, gen, b2, sh2, cs, cs', e2, hfz, h1, h2, h3, h4, h5, h6, h7, h8⟩
      · exact hk b hlt
      · refine h5 b hlt ?_
        rintro rfl
        rcases hI.alias o o2 y _ b sh sh2 ho (hS o2 _ _ h2 h4) (by rw [hs, e]) h4 with rfl | hal
        · have := hS o _ _ h2 h4
          rw [ho] at this
          exact hna _ _ _ (Option.some.inj this)
        · cases y <;> simp [Alias] at hal
          · exact hna _ _ _ rfl
          · exact hnd' rfl
    have hnF : ∀ b sh, s = some (b, sh) → y ≠ .dead → ¬ K.F b → (∀ l g e, y = .arr l g e → g ∉ fz) → ¬ K'.F b := by
      intro b sh e hnd' hF hgz hF'
      have hlt : b < K.w.heap.size := RO.lt hg (e ▸ hro) hnd'
      rcases st.F b hF' with h | ⟨h, _⟩ | ⟨o2, l2, g2, e2, sh2, h1, h2, h3⟩
      · exact hF h
      · omega
      · rcases hI.alias o o2 y _ b sh sh2 ho (hS o2 _ _ h1 h3) (by rw [hs, e]) h3 with rfl | hal
        · have := hS o _ _ h1 h3
          rw [ho] at this
          exact hgz _ _ _ (Option.some.inj this) h2
        · cases y <;> simp [Alias] at hal
          · rename_i l g e3
            exact hgz l g e3 rfl (hal.1 ▸ h2)
          · exact hnd' rfl
    cases y with
    | arr l g e =>
      rw [frzs_arr]
      simp only [RO] at hro
      split
      · rename_i hgz
        simp only [RO]
        rcases hro with ⟨h1, h2⟩ | ⟨b, sh, cs, et, h1, h2, h3, h4, h5⟩
        · exact .inl ⟨h1, h2⟩
        · have hr := hcells b sh l h1 h5 (.inl ⟨g, e, rfl⟩)
          exact .inr ⟨b, sh, h1, st.frz o l g e b sh (hSD (by rintro rfl; simp at hgz) o _ ho) hgz (by rw [hs, h1]), hr⟩
      · rename_i hgz
        simp only [RO]
        rcases hro with ⟨h1, h2⟩ | ⟨b, sh, cs, et, h1, h2, h3, h4, h5⟩
        · exact .inl ⟨h1, h2⟩
        · have hr := hcells b sh l h1 h5 (.inl ⟨g, e, rfl⟩)
          have hnf := hnF b sh h1 (by simp) h2 fun l' g' e' he => by simp at he; rw [← he.2.1]; exact hgz
          rcases st.kept with hk | ⟨o2, l2, l', g2, gen, b2, sh2, cs2, cs', e2, hfz, q1, q2, q3, q4, q5, q6, q7, q8⟩
          · exact .inr ⟨b, sh, cs, et, h1, hnf, by rw [st.ext.base]; exact h3, (hk b (heap_lt h4)).trans h4, hr⟩
          · by_cases hb : b = b2
            · subst hb
              exact .inr ⟨b, sh, cs', e2, h1, hnf, by rw [st.ext.base]; exact h3, q7, hr⟩
            · exact .inr ⟨b, sh, cs, et, h1, hnf, by rw [st.ext.base]; exact h3, (q5 b (heap_lt h4) hb).trans h4, hr⟩
    | dead => rw [frzs_other fz .dead (by simp)]; simp only [RO]
    | box l => rw [frzs_other fz _ (by simp)]; exact RO.mono st.ext (fun b sh e h => hnF b sh e (by simp) h (by simp)) (fun b sh e => hblock b sh e (by simp) (by simp)) hro
    | fz l => rw [frzs_other fz _ (by simp)]; exact RO.mono st.ext (fun b sh e h => hnF b sh e (by simp) h (by simp)) (fun b sh e => hblock b sh e (by simp) (by simp)) hro
    | mp es cl => rw [frzs_other fz _ (by simp)]; exact RO.mono st.ext (fun b sh e h => hnF b sh e (by simp) h (by simp)) (fun b sh e => hblock b sh e (by simp) (by simp)) hro
  have hnewO : ∀ i y, nw[i]? = some y → ∃ s, K'.σ (n + i) = some s ∧ RO K' s y := st.new
  refine ⟨fun o y s ho hs => ?_, fun o y ho => ?_, fun o o' y y' b sh sh' ho ho' hs hs' => ?_⟩
  · split at ho
    · rename_i hc
      obtain ⟨s', h1, h2⟩ := st.new _ _ ho
      rw [show n + (o - n) = o by omega, hs] at h1
      obtain rfl := Option.some.inj h1
      exact h2
    · obtain ⟨y', h1, rfl⟩ := Option.map_eq_some_iff.1 ho
      obtain ⟨s', h2, h3⟩ := hσ o y' h1
      rw [hs] at h3; obtain rfl := Option.some.inj h3
      exact hold o y' s h1 h2
  · split at ho
    · rename_i hc
      obtain ⟨s', h1, h2⟩ := st.new _ _ ho
      rw [show n + (o - n) = o by omega] at h1
      rw [h1]; simp
    · obtain ⟨y', h1, rfl⟩ := Option.map_eq_some_iff.1 ho
      obtain ⟨s', h2, h3⟩ := hσ o y' h1
      rw [h3]; simp
  · -- two objects in one block
    have mixed : ∀ o o' y y' b sh sh', (n ≤ o ∧ o < n + nw.length) → nw[o - n]? = some y → obD o' = some y' → K'.σ o = some (some (b, sh)) → K'.σ o' = some (some (b, sh')) → Alias y (frzs fz y') sh sh' := by
      intro o o' y y' b sh sh' hc h1 h2 h3 h4
      obtain ⟨s', h5, h6⟩ := hσ o' y' h2
      rw [h4] at h6; obtain rfl := Option.some.inj h6
      have hdy : y ≠ .dead := hnd y (List.mem_of_getElem? h1)
      by_cases hd' : y' = .dead
      · subst hd'; rw [frzs_other fz .dead (by simp)]; cases y <;> simp [Alias] at hdy ⊢
      have hlt : b < K.w.heap.size := RO.lt hg (hI.objs o' y' _ h2 h5) hd'
      have h3' := h3
      rw [show o = n + (o - n) by omega] at h3'
      rcases st.place (o - n) b sh (by omega) h3' with ⟨h, _⟩ | ⟨o2, l2, l', g, gen, rfl, q1, q2, q3, q4, q5⟩
      · omega
      · have hz : o - n = 0 := by rw [q1] at hc; simp at hc; omega
        rw [hz, q1] at h1
        simp at h1; subst h1
        have q6 := hS o2 _ _ q2 q4
        rcases hI.alias o' o2 y' _ b sh' sh h2 q6 h5 q4 with rfl | hal
        · rw [h2] at q6; obtain rfl := Option.some.inj q6
          rw [h5] at q4; simp at q4; subst q4
          rw [frzs_arr]
          split
          · rename_i hh; simp at hh
          · simp only [Alias]
            exact ⟨trivial, trivial, fun h => by omega, fun _ _ => q5⟩
        · cases y' with
          | arr ly gy ey =>
            simp only [Alias] at hal
            obtain ⟨rfl, rfl, a1, a2⟩ := hal
            have hle := htip o2 l2 l' gy gen q1 q2 q3 o' ly gy ey h2 rfl
            rw [frzs_arr]
            split
            · rename_i hh; simp at hh
            · simp only [Alias]
              exact ⟨trivial, trivial, fun h => by omega, fun _ _ => Nat.le_trans (a1 hle q3) q5⟩
          | dead => exact absurd rfl hd'
          | _ => simp [Alias] at hal
    split at ho
    · rename_i hc
      split at ho'
      · rename_i hc'
        left
        have e1 := hs; have e2 := hs'
        rw [show o = n + (o - n) by omega] at e1
        rw [show o' = n + (o' - n) by omega] at e2
        have := st.apart (o - n) (o' - n) b sh sh' (by omega) (by omega) e1 e2
        omega
      · obtain ⟨z, h1, rfl⟩ := Option.map_eq_some_iff.1 ho'
        exact .inr (mixed o o' y z b sh sh' hc ho h1 hs hs')
    · obtain ⟨z, h1, rfl⟩ := Option.map_eq_some_iff.1 ho
      split at ho'
      · rename_i hc'
        exact .inr (mixed o' o y' z b sh' sh hc' ho' h1 hs' hs).symm
      · obtain ⟨z', h2, rfl⟩ := Option.map_eq_some_iff.1 ho'
        obtain ⟨s1, h3, h4⟩ := hσ o z h1
        obtain ⟨s2, h5, h6⟩ := hσ o' z' h2
        rw [hs] at h4; obtain rfl := Option.some.inj h4
        rw [hs'] at h6; obtain rfl := Option.some.inj h6
        exact (hI.alias o o' z z' b sh sh' h1 h2 h3 h5).imp id fun h => h.frz fz
end Go.Proofs.Ytnbijiopcgfmfaa.Tev
