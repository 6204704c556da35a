/- Stores. -/
import Derived.Test.YtnbijiopcgfmfaaTevSeq
namespace Go.Proofs.Ytnbijiopcgfmfaa.Tev
open Go Go.RowKit
set_option linter.unusedSectionVars false
set_option linter.unusedVariables false
set_option linter.unusedSimpArgs false
theorem obj_setO (o : Nat) (x : Ob) : ∀ (l : List (Nat × Ob)) (p : Nat), obj (setO o x l) p = if p = o then (obj l p).map (fun _ => x) else obj l p
  | [], p => by simp [setO, obj]
  | (k, y) :: l, p => by
    simp only [setO]
    split
    · rename_i h; subst h
      simp only [obj]
      by_cases hp : k = p
      · subst hp; simp
      · rw [if_neg hp, if_neg hp, obj_setO k x l p]
    · rename_i h
      simp only [obj]
      by_cases hp : k = p
      · subst hp; simp [h]
      · rw [if_neg hp, if_neg hp, obj_setO o x l p]
theorem obj_killG (g o : Nat) : ∀ (l : List (Nat × Ob)) (p : Nat), obj (killG g o l) p = (obj l p).map (kill1 g o p)
  | [], p => rfl
  | (k, y) :: l, p => by
    simp only [killG, obj]
    by_cases hp : k = p
    · subst hp; simp
    · rw [if_neg hp, if_neg hp, obj_killG g o l p]
/-- What a store to x leaves of z: nothing, if it is of x's group. -/
def kill2 (x z : Ob) : Ob :=
  match x, z with
  | .arr _ g _, .arr l g' e' => if g' = g then .dead else .arr l g' e'
  | _, z => z
theorem RT_one {K : Ctx} {x : T} {u : Value} (h : oneT x = true) (r : RT K x u) : u.oneCell' = true := by
  cases x with
  | c y =>
    simp only [RT] at r; exact RC_one r
  | und => simp [oneT] at h
  | junk => simp [oneT] at h
  | agg => simp [oneT] at h
  | tup => simp [oneT] at h
  | tmp => simp only [RT] at r; obtain ⟨_, _, rfl, _⟩ := r; rfl
  | sl => simp only [RT] at r; obtain ⟨_, _, rfl, _⟩ := r; rfl
  | pt => simp only [RT] at r; obtain ⟨_, _, _, rfl⟩ := r; rfl
  | rp => simp only [RT] at r; obtain ⟨_, _, rfl, _⟩ := r; rfl
  | rb => simp only [RT] at r; obtain ⟨_, rfl, _⟩ := r; rfl
  | fn => simp only [RT] at r; obtain ⟨_, rfl, _⟩ := r; rfl
  | mp => simp only [RT] at r; obtain ⟨_, _, _, rfl⟩ := r; rfl
  | ms => simp only [RT] at r; obtain ⟨_, _, _, rfl, _⟩ := r; rfl
section
variable {P : Program} {m : Nat} {w0 : World} {F0 : Nat → Prop} {K : Ctx} {S : St} {a : Act}
def Ctx.setRow (K : Ctx) (b : Nat) (cs : Array Value) : Ctx := { K with w := K.w.setRow b cs }
theorem KExt.setRow {b : Nat} {cs cs' : Array Value} {e : TypeId} {fr : Nat × Nat} (hF : ¬ K.F b) (hb : K.base ≤ b) (hh : K.w.heap[b]? = some (.cells cs e fr)) (hs : cs'.size = cs.size) : KExt K (K.setRow b cs') where
  base := rfl
  F := fun _ h => h
  σ := fun _ _ h => h
  kept := fun c hc => setRow_other _ _ _ _ (by rintro rfl; rcases hc with h | h; exact hF h; omega)
  sizes := fun c q e' fr' h => by
    by_cases hc : c = b
    · subst hc
      rw [hh] at h
      simp only [Option.some.injEq, Obj.cells.injEq] at h
      obtain ⟨rfl, rfl, rfl⟩ := h
      exact ⟨cs', e, fr, setRow_heap _ _ _ _ _ _ hh, hs⟩
    · exact ⟨q, e', fr', (setRow_other _ _ _ _ hc).trans h, rfl⟩
/-- A cell's block is written: the state behind it. -/
theorem Inv.write (h : Inv m w0 F0 K S a) {p b sh : Nat} {x y : Ob} {cs cs' : Array Value} {e : TypeId} {fr : Nat × Nat} (hp : obj S.o p = some x) (hs : K.σ p = some (some (b, sh))) (hF : ¬ K.F b) (hb : K.base ≤ b) (hh : K.w.heap[b]? = some (.cells cs e fr)) (hsz : cs'.size = cs.size)
    {os : List (Nat × Ob)} (hos : ∀ o, obj os o = if o = p then some y else (obj S.o o).map (kill2 x))
    (hy : RO (K.setRow b cs') (some (b, sh)) y) (hxy : (∃ l, x = .box l ∧ ∃ l', y = .box l') ∨ ∃ l l' g gen, x = .arr l g gen ∧ y = .arr l' g gen) :
    Inv m w0 F0 (K.setRow b cs') { S with o := os } a := by
  have hext := KExt.setRow hF hb hh hsz
  have hxd : x ≠ .dead := by rcases hxy with ⟨l, rfl, _⟩ | ⟨_, _, _, _, rfl, _⟩ <;> simp
  have other : ∀ o z s, o ≠ p → obj S.o o = some z → K.σ o = some s → ∀ z', kill2 x z = z' → (z' = .dead ∨ z' = z ∧ ∀ b' sh', s = some (b', sh') → z ≠ .dead → b' ≠ b) := by
    intro o z s hne ho hs' z' hz
    by_cases hzd : z = .dead
    · subst hzd; left; rw [← hz]; cases x <;> rfl
    have key : (∀ l g e g0 l0 e0, x = .arr l0 g0 e0 → z = .arr l g e → g ≠ g0) → z' = z ∧ ∀ b' sh', s = some (b', sh') → z ≠ .dead → b' ≠ b := by
      intro hn
      refine ⟨?_, fun b' sh' e _ hbb => ?_⟩
      · rw [← hz]
        cases x <;> cases z <;> first | rfl | (rename_i l0 g0 e0 l g e2; have := hn l g e2 g0 l0 e0 rfl rfl; simp [kill2, this])
      · subst hbb
        rcases h.oi.alias o p z x b' sh' sh ho hp (by rw [hs', e]) hs with h1 | h1
        · exact hne h1
        · cases z with
          | arr l g e2 =>
            cases x with
            | arr l0 g0 e0 => simp only [Alias] at h1; exact hn _ _ _ _ _ _ rfl rfl h1.1
            | dead => exact hxd rfl
            | _ => simp [Alias] at h1
          | dead => exact hzd rfl
          | fz l => rcases hxy with ⟨l, rfl, _⟩ | ⟨_, _, _, _, rfl, _⟩ <;> simp [Alias] at h1
          | box l => rcases hxy with ⟨l, rfl, _⟩ | ⟨_, _, _, _, rfl, _⟩ <;> simp [Alias] at h1
          | mp es cl => rcases hxy with ⟨l, rfl, _⟩ | ⟨_, _, _, _, rfl, _⟩ <;> simp [Alias] at h1
    cases x with
    | arr l0 g0 e0 =>
      cases z with
      | arr l g e2 =>
        by_cases hg : g = g0
        · left; rw [← hz]; simp [kill2, hg]
        · right; exact key fun _ _ _ _ _ _ e1 e2 => by simp at e1 e2; omega
      | _ => right; exact key fun _ _ _ _ _ _ e1 e2 => by simp at e2
    | _ => right; exact key fun _ _ _ _ _ _ e1 e2 => by simp at e1
  have getz : ∀ o z', o ≠ p → obj os o = some z' → ∃ z, obj S.o o = some z ∧ kill2 x z = z' := by
    intro o z' hne ho
    rw [hos, if_neg hne] at ho
    exact Option.map_eq_some_iff.1 ho
  exact {
    good := ⟨fun c hc => by show c < (K.w.setRow b cs').heap.size; rw [setRow_size]; exact h.good.F c hc, by show K.base ≤ (K.w.setRow b cs').heap.size; rw [setRow_size]; exact h.good.base⟩
    base := h.base
    below := h.below.trans (setRow_below (by rw [← h.base]; exact hb))
    Fin := h.Fin
    Fout := h.Fout
    size := h.size
    defers := h.defers
    tm := fun t => RT.mono hext _ _ (h.tm t)
    oi := {
      objs := fun o z' s ho hs' => by
        by_cases hne : o = p
        · subst hne
          rw [hos, if_pos rfl] at ho
          obtain rfl := Option.some.inj ho
          have hs'' : K.σ o = some s := hs'
          rw [hs] at hs''; obtain rfl := Option.some.inj hs''
          exact hy
        · obtain ⟨z, h1, h2⟩ := getz o z' hne ho
          rcases other o z s hne h1 hs' z' h2 with rfl | ⟨rfl, h3⟩
          · simp only [RO]
          · by_cases hzd : z' = .dead
            · subst hzd; simp only [RO]
            · exact RO.mono hext (fun _ _ _ h => h) (fun b' sh' e => setRow_other _ _ _ _ (h3 b' sh' e hzd)) (h.oi.objs o z' s h1 hs')
      dom := fun o z' ho => by
        by_cases hne : o = p
        · subst hne; show K.σ o ≠ none; rw [hs]; simp
        · obtain ⟨z, h1, _⟩ := getz o z' hne ho
          exact h.oi.dom o z h1
      alias := fun o o' z1 z2 b1 sh1 sh2 ho ho' hs1 hs2 => by
        have one : ∀ o z' b1 sh1 sh2, o ≠ p → obj os o = some z' → K.σ o = some (some (b1, sh1)) → K.σ p = some (some (b1, sh2)) → Alias z' y sh1 sh2 := by
          intro o z' b1 sh1 sh2 hne ho hs1 hs2
          obtain ⟨z, h1, h2⟩ := getz o z' hne ho
          rcases other o z _ hne h1 hs1 z' h2 with rfl | ⟨rfl, h3⟩
          · cases y <;> simp [Alias]
          · by_cases hzd : z' = .dead
            · subst hzd; cases y <;> simp [Alias]
            · rw [hs] at hs2; simp at hs2
              exact absurd hs2.1.symm (h3 b1 sh1 rfl hzd)
        by_cases h1 : o = p
        · by_cases h2 : o' = p
          · exact .inl (h1.trans h2.symm)
          · subst h1
            rw [hos, if_pos rfl] at ho; obtain rfl := Option.some.inj ho
            exact .inr (one o' z2 b1 sh2 sh1 h2 ho' hs2 hs1).symm
        · by_cases h2 : o' = p
          · subst h2
            rw [hos, if_pos rfl] at ho'; obtain rfl := Option.some.inj ho'
            exact .inr (one o z1 b1 sh1 sh2 h1 ho hs1 hs2)
          · obtain ⟨z, g1, g2⟩ := getz o z1 h1 ho
            obtain ⟨z', g3, g4⟩ := getz o' z2 h2 ho'
            rcases other o z _ h1 g1 hs1 z1 g2 with rfl | ⟨rfl, _⟩
            · right; cases z2 <;> simp [Alias]
            · rcases other o' z' _ h2 g3 hs2 z2 g4 with rfl | ⟨rfl, _⟩
              · right; cases z1 <;> simp [Alias]
              · exact h.oi.alias o o' z1 z2 b1 sh1 sh2 g1 g3 hs1 hs2 }
    fresh := h.fresh
    grp := fun o l g e2 ho => by
      by_cases hne : o = p
      · subst hne
        have ho' : obj os o = _ := ho
        rw [hos, if_pos rfl] at ho'
        obtain rfl := Option.some.inj ho'
        rcases hxy with ⟨_, _, _, q⟩ | ⟨l1, l2, g1, gen1, rfl, q⟩
        · simp at q
        · simp at q; obtain ⟨_, rfl, _⟩ := q; exact h.grp _ _ _ _ hp
      · obtain ⟨z, h1, h2⟩ := getz o _ hne ho
        cases z with
        | arr l0 g0 e0 =>
          have : g0 = g := by
            cases x with
            | arr l3 g3 e3 =>
              simp only [kill2] at h2
              split at h2
              · simp at h2
              · simp at h2; exact h2.2.1
            | _ => simp [kill2] at h2; exact h2.2.1
          subst this
          exact h.grp _ _ _ _ h1
        | _ => cases x <;> simp [kill2] at h2 }

theorem store_run {t : TypeId} {sz : Nat} (h2 : szOf P t = some sz) (y z : Operand) (d : Option Nat) (ty : TypeId) (pos : String) (af : Array Edge) (gg : Option (Nat × Bool)) {b off : Nat} (ha : a.eval y = .pointer (some ⟨b, off, none⟩)) (hsz : (a.eval z).cells.toList.length = sz)
    (h1 : ∀ v ∈ (a.eval z).cells.toList, v.oneCell' = true) {w : World} {cs : Array Value} {e : TypeId} (hh : w.heap[b]? = some (.cells cs e (0, 0))) (hroom : off + sz ≤ cs.size) :
    (execOp a.eval ⟨d, .store t y z, ty, pos, af, gg⟩).run P w = .ok .skip (w.setRow b (cs.toList.take off ++ (a.eval z).cells.toList ++ cs.toList.drop (off + sz)).toArray) := by
  have := run_storeCells_at (P := P) b off e (a.eval z).cells.toList 0 cs w hh (by simp only [Nat.add_zero]; omega) h1
  rw [Nat.add_zero, hsz] at this
  have hs' : (a.eval z).cells.size = sz := by simpa using hsz
  simp only [execOp, ha, Instr.storeAt, Instr.sureAddr, storeVar, bind, Pure.pure, Sem.bind, Sem.run_bind', szOf_run h2, Result.andThen, hs', ne_eq, not_true_eq_false, if_false, this, Sem.run]
theorem splice_eq {α : Type} (l : List α) (off k : Nat) (x : List α) (h : x.length = k) : splice l off x = l.take off ++ x ++ l.drop (off + k) := by unfold splice; rw [h]
theorem splice_get {α : Type} (l : List α) (off : Nat) (x : List α) (h : off + x.length ≤ l.length) (i : Nat) : (splice l off x)[i]? = if off ≤ i ∧ i < off + x.length then x[i - off]? else l[i]? := by
  unfold splice
  have hlen : (l.take off).length = off := by simp; omega
  by_cases h1 : i < off
  · rw [List.append_assoc, List.getElem?_append_left (by omega), List.getElem?_take, if_pos h1, if_neg (by omega)]
  · by_cases h2 : i < off + x.length
    · rw [List.append_assoc, List.getElem?_append_right (by omega), List.getElem?_append_left (by omega), hlen, if_pos (by omega)]
    · rw [List.getElem?_append_right (by simp; omega), List.getElem?_drop, if_neg (by omega)]
      congr 1
      simp; omega
theorem store_sound (h : Inv m w0 F0 K S a) (t : TypeId) (y z : Operand) (d : Option Nat) (ty : TypeId) (pos : String) (af : Array Edge) (gg : Option (Nat × Bool)) {os : List (Nat × Ob)}
    (hy : RT K (S.ev y) (a.eval y)) (hz : RT K (S.ev z) (a.eval z)) (ho : storeT P S t (S.ev y) (S.ev z) = some os) :
    ∃ K', (execOp a.eval ⟨d, .store t y z, ty, pos, af, gg⟩).run P K.w = .ok .skip K'.w ∧ Inv m w0 F0 K' { S with o := os } a := by
  unfold storeT at ho
  obtain ⟨sz, h1, ho⟩ := Option.bind_eq_some_iff.1 ho
  obtain ⟨v, h2, ho⟩ := Option.bind_eq_some_iff.1 ho
  split at ho
  · rename_i hc
    obtain ⟨hc1, hc2, hc3⟩ := hc
    have hv := cellsOf_sound h2 hz
    have hvl := RTs_length _ _ hv
    have hvs : (a.eval z).cells.size = sz := by rw [← hc1, ← hvl]; simp
    have hone : ∀ u ∈ (a.eval z).cells.toList, u.oneCell' = true := by
      intro u hu
      obtain ⟨i, hi, rfl⟩ := List.mem_iff_getElem.1 hu
      obtain ⟨u', h3, h4⟩ := RTs_get _ _ i v[i] hv (List.getElem?_eq_getElem (by omega))
      rw [List.getElem?_eq_getElem hi] at h3
      obtain rfl := Option.some.inj h3
      exact RT_one (List.all_eq_true.1 hc2 _ (List.getElem_mem _)) h4
    split at ho
    · rename_i p off ep
      rw [ep] at hy
      simp only [RT] at hy
      obtain ⟨b, sh, hs, ey⟩ := hy
      split at ho
      · rename_i l hl
        split at ho
        · rename_i hroom
          obtain rfl := Option.some.inj ho
          have hro := h.oi.objs p _ _ hl hs
          simp only [RO] at hro
          obtain ⟨b', cs, e, e1, hF, hb, hh, hr⟩ := hro
          obtain ⟨rfl, rfl⟩ := Prod.mk.inj (Option.some.inj e1)
          have hll := RTs_length _ _ hr
          simp only [Array.length_toList] at hll
          rw [Nat.zero_add] at ey
          have hrun := store_run (P := P) h1 y z d ty pos af gg ey (by omega) hone hh (by omega)
          refine ⟨K.setRow b _, hrun, h.write hl hs hF hb hh (by simp; omega) (y := .box (splice l off v)) (fun o => ?_) ?_ (.inl ⟨l, rfl, _, rfl⟩)⟩
          · rw [obj_setO]
            split
            · rename_i e; subst e; rw [hl]; rfl
            · cases obj S.o o <;> rfl
          · simp only [RO]
            refine ⟨b, _, e, rfl, hF, hb, setRow_heap _ _ _ _ _ _ hh, ?_⟩
            have hext := KExt.setRow (cs' := (cs.toList.take off ++ (a.eval z).cells.toList ++ cs.toList.drop (off + sz)).toArray) hF hb hh (by simp; omega)
            have := RTs.mono hext _ _ (RTs_splice hr hv off)
            rw [splice_eq cs.toList off sz _ (by omega)] at this
            simpa using this
        · simp at ho
      · rename_i l g gen hl
        split at ho
        · rename_i hroom
          split at ho
          · rename_i q hq
            obtain rfl := Option.some.inj ho
            have hro := h.oi.objs p _ _ hl hs
            simp only [RO] at hro
            rcases hro with ⟨e1, _⟩ | ⟨b', sh', cs, e, e1, hF, hb, hh, hr⟩
            · simp at e1
            · obtain ⟨rfl, rfl⟩ := Prod.mk.inj (Option.some.inj e1)
              obtain ⟨hql, hqr⟩ := toCs_sound (ob := obj S.o) h.oi.objs rfl (fz := []) hq (by simp) hv
              have hsize : sh + l.length ≤ cs.size := by
                rcases Nat.eq_zero_or_pos l.length with h0 | h0
                · omega
                · obtain ⟨u, hu, _⟩ := RCs_get _ _ (l.length - 1) l[l.length - 1] hr (List.getElem?_eq_getElem (by omega))
                  simp only [World.cell?, hh, Option.isSome, Bool.false_eq_true, if_false] at hu
                  have : sh + (l.length - 1) < cs.size := by
                    rcases Nat.lt_or_ge (sh + (l.length - 1)) cs.size with h' | h'
                    · exact h'
                    · simp [Array.getElem?_eq_none h'] at hu
                  omega
              have hrun := store_run (P := P) h1 y z d ty pos af gg ey (by omega) hone hh (by omega)
              refine ⟨K.setRow b _, hrun, h.write hl hs hF hb hh (by simp; omega) (y := .arr (splice l off q) g gen) (fun o => ?_) ?_ (.inr ⟨l, _, g, gen, rfl, rfl⟩)⟩
              · rw [obj_killG, obj_setO]
                split
                · rename_i e; subst e; rw [hl]; simp [kill1]
                · rename_i hne
                  cases obj S.o o with
                  | none => rfl
                  | some z => cases z <;> simp [kill1, kill2, hne]
              · simp only [RO]
                refine .inr ⟨b, sh, _, e, rfl, hF, hb, setRow_heap _ _ _ _ _ _ hh, ?_⟩
                refine RCs_mk (setRow_heap _ _ _ _ _ _ hh) sh _ fun i c hc => ?_
                have hext := KExt.setRow (cs' := (cs.toList.take (sh + off) ++ (a.eval z).cells.toList ++ cs.toList.drop (sh + off + sz)).toArray) hF hb hh (by simp; omega)
                have up : ∀ c u, RC K.w K.F c u → RC (K.setRow b (cs.toList.take (sh + off) ++ (a.eval z).cells.toList ++ cs.toList.drop (sh + off + sz)).toArray).w K.F c u := fun c u r => RC.mono (fun b h => h) (fun b h => hext.kept b (.inl h)) _ _ r
                rw [splice_get _ _ _ (by omega)] at hc
                have hg := splice_get cs.toList (sh + off) (a.eval z).cells.toList (by simp only [Array.length_toList] at hvl ⊢; omega) (sh + i)
                rw [splice_eq cs.toList (sh + off) sz _ (by omega)] at hg
                split at hc
                · rename_i hi
                  obtain ⟨u, hu, r⟩ := hqr _ _ hc
                  refine ⟨u, ?_, up _ _ (RC.mono (fun b hb => hb.elim id fun ⟨_, _, _, _, _, _, hx, _⟩ => by simp at hx) (fun _ _ => rfl) _ _ r)⟩
                  simp only [List.getElem?_toArray]
                  rw [hg, if_pos (by omega), show sh + i - (sh + off) = i - off by omega]; exact hu
                · rename_i hi
                  obtain ⟨u, hu, r⟩ := RCs_get _ _ _ _ hr hc
                  refine ⟨u, ?_, up _ _ r⟩
                  simp only [List.getElem?_toArray]
                  rw [hg, if_neg (by omega)]
                  simpa [World.cell?, hh] using hu
          · simp at ho
        · simp at ho
      · simp at ho
    · simp at ho
  · simp at ho
/-- A map's block is written. -/
def Ctx.setMap (K : Ctx) (b : Nat) (o : Obj) : Ctx := { K with w := { K.w with heap := K.w.heap.setIfInBounds b o } }
theorem setMap_other (K : Ctx) (b : Nat) (o : Obj) (c : Nat) (h : c ≠ b) : (K.setMap b o).w.heap[c]? = K.w.heap[c]? := by
  simp only [Ctx.setMap, Array.getElem?_setIfInBounds]; rw [if_neg (fun e => h e.symm)]
theorem setMap_heap (K : Ctx) (b : Nat) (o : Obj) (h : b < K.w.heap.size) : (K.setMap b o).w.heap[b]? = some o := by
  simp [Ctx.setMap, h]
theorem setMap_size (K : Ctx) (b : Nat) (o : Obj) : (K.setMap b o).w.heap.size = K.w.heap.size := by simp [Ctx.setMap]
theorem KExt.setMap {b : Nat} {o : Obj} {ents : Array MapEntry} {cl : Nat} (hF : ¬ K.F b) (hb : K.base ≤ b) (hh : K.w.heap[b]? = some (.map ents cl)) : KExt K (K.setMap b o) where
  base := rfl
  F := fun _ h => h
  σ := fun _ _ h => h
  kept := fun c hc => setMap_other _ _ _ _ (by rintro rfl; rcases hc with h | h; exact hF h; omega)
  sizes := fun c q e' fr' h => by
    by_cases hc : c = b
    · subst hc; rw [hh] at h; simp at h
    · exact ⟨q, e', fr', (setMap_other _ _ _ _ hc).trans h, rfl⟩
theorem Inv.writeMap (h : Inv m w0 F0 K S a) {p b sh : Nat} {es es' : List (Value × C × Nat)} {cl cl' : Nat} {ents : Array MapEntry} {o' : Obj} (hp : obj S.o p = some (.mp es cl)) (hs : K.σ p = some (some (b, sh))) (hF : ¬ K.F b) (hb : K.base ≤ b) (hh : K.w.heap[b]? = some (.map ents cl))
    {os : List (Nat × Ob)} (hos : ∀ o, obj os o = if o = p then some (.mp es' cl') else obj S.o o) (hy : RO (K.setMap b o') (some (b, sh)) (.mp es' cl')) : Inv m w0 F0 (K.setMap b o') { S with o := os } a := by
  have hext := KExt.setMap (o := o') hF hb hh
  have alias : ∀ o z b' sh' sh2, o ≠ p → obj S.o o = some z → K.σ o = some (some (b', sh')) → K.σ p = some (some (b', sh2)) → z = .dead := by
    intro o z b' sh' sh2 hne ho h1 h2
    rcases h.oi.alias o p z _ b' sh' sh2 ho hp h1 h2 with h3 | h3
    · exact absurd h3 hne
    · cases z <;> simp [Alias] at h3 ⊢
  exact {
    good := ⟨fun c hc => by rw [setMap_size]; exact h.good.F c hc, by rw [setMap_size]; exact h.good.base⟩
    base := h.base
    below := h.below.trans ⟨rfl, rfl, rfl, by rw [setMap_size]; exact Nat.le_refl _, fun k hk => setMap_other _ _ _ _ (by have := h.base; omega)⟩
    Fin := h.Fin
    Fout := h.Fout
    size := h.size
    defers := h.defers
    tm := fun t => RT.mono hext _ _ (h.tm t)
    oi := {
      objs := fun o z s ho hs' => by
        rw [hos] at ho
        split at ho
        · rename_i e; subst e
          obtain rfl := Option.some.inj ho
          have hs'' : K.σ o = some s := hs'
          rw [hs] at hs''; obtain rfl := Option.some.inj hs''
          exact hy
        · rename_i hne
          by_cases hzd : z = .dead
          · subst hzd; simp only [RO]
          · refine RO.mono hext (fun _ _ _ h => h) (fun b' sh' e => setMap_other _ _ _ _ ?_) (h.oi.objs o z s ho hs')
            rintro rfl
            exact hzd (alias o z b' sh' sh hne ho (by rw [← e]; exact hs') hs)
      dom := fun o z ho => by
        rw [hos] at ho
        split at ho
        · rename_i e; subst e; show K.σ o ≠ none; rw [hs]; simp
        · exact h.oi.dom o z ho
      alias := fun o o2 z1 z2 b1 sh1 sh2 ho ho' hs1 hs2 => by
        rw [hos] at ho ho'
        by_cases h1 : o = p
        · by_cases h2 : o2 = p
          · exact .inl (h1.trans h2.symm)
          · rw [if_neg h2] at ho'
            have := alias o2 z2 b1 sh2 sh1 h2 ho' hs2 (h1 ▸ hs1)
            subst this; right; cases z1 <;> simp [Alias]
        · rw [if_neg h1] at ho
          by_cases h2 : o2 = p
          · have := alias o z1 b1 sh1 sh2 h1 ho hs1 (h2 ▸ hs2)
            subst this; right; cases z2 <;> simp [Alias]
          · rw [if_neg h2] at ho'
            exact h.oi.alias o o2 z1 z2 b1 sh1 sh2 ho ho' hs1 hs2 }
    fresh := h.fresh
    grp := fun o l g e ho => by
      have ho2 : obj os o = _ := ho
      rw [hos] at ho2
      split at ho2
      · simp at ho2
      · exact h.grp o l g e ho2 }
theorem stays_run (k : IntKind) (i : Int) (w : World) : (Instr.keyThatStays (.int k i) (.int k i)).run P w = .ok (.int k i) w := by
  have : Instr.sameBits (9999 + 1) (.int k i) (.int k i) = true := by simp [Instr.sameBits]
  unfold Instr.keyThatStays
  rw [if_pos this]; rfl
theorem mapUpdate_run {t k e : TypeId} {kk : IntKind} (hu1 : P.underlying t = some (.map k e)) (hu2 : P.underlying k = some (.int kk)) {b : Nat} {ents : Array MapEntry} {cl : Nat} (hb : K.w.heap[b]? = some (.map ents cl)) {k1 : IntKind} {i1 : Int} {x : Value} {q : Option (Nat × Value)}
    (hq : Instr.findNow (.int kk) (.int k1 i1) ents.toList 0 = some q) (hkey : ∀ j v, q = some (j, v) → ∃ en, ents[j]? = some en ∧ en.key = .int k1 i1) :
    (Instr.mapUpdate t (.map (some b)) (.int k1 i1) x).run P K.w = .ok () (K.setMap b (match q with | some (j, _) => .map (ents.modify j fun en => { en with key := .int k1 i1, val := x }) cl | none => .map (ents.push { key := .int k1 i1, val := x, born := cl }) (cl + 1))).w := by
  have hc := checkKey_run (P := P) hu2 false 9999 (.int k1 i1) K.w
  have hlt := heap_lt hb
  have hset : ∀ o : Obj, (setObj b o).run P K.w = .ok () (K.setMap b o).w := fun o => by simp [setObj, Sem.run, hb, Ctx.setMap]
  simp only [Instr.mapUpdate, bind, Sem.run_bind', under_run hu1, Result.andThen, get_map hb, hc, findKey_run hu2 hq]
  cases q with
  | none => simp only [hset]
  | some p =>
    obtain ⟨j, v⟩ := p
    obtain ⟨en, h1, h2⟩ := hkey j v rfl
    simp only [h1, Option.map_some, Option.getD_some, h2, Sem.run_bind', stays_run, Result.andThen, hset]
theorem REs_length {w : World} {F : Nat → Prop} : ∀ {es : List (Value × C × Nat)} {l : List MapEntry}, REs w F es l → l.length = es.length
  | [], l, h => by simp only [REs] at h; subst h; rfl
  | x :: es, l, h => by simp only [REs] at h; obtain ⟨e, r, rfl, _, _, _, h⟩ := h; simp [REs_length h]
theorem REs_push {w : World} {F : Nat → Prop} {z : Value × C × Nat} {en : MapEntry} (h1 : en.key = z.1) (h2 : RC w F z.2.1 en.val) (h3 : en.born = z.2.2) : ∀ {es : List (Value × C × Nat)} {l : List MapEntry}, REs w F es l → REs w F (es ++ [z]) (l ++ [en])
  | [], l, h => by simp only [REs] at h; subst h; simp only [List.nil_append, REs]; exact ⟨en, [], rfl, h1, h2, h3, rfl⟩
  | x :: es, l, h => by simp only [REs] at h; obtain ⟨e, r, rfl, g1, g2, g3, h⟩ := h; simp only [List.cons_append, REs]; exact ⟨e, r ++ [en], rfl, g1, g2, g3, REs_push h1 h2 h3 h⟩
theorem REs_modify {w : World} {F : Nat → Prop} {c : C} {kv v : Value} (hr : RC w F c v) : ∀ {es : List (Value × C × Nat)} {l : List MapEntry} (j : Nat), (∀ x, es[j]? = some x → kv = x.1) → REs w F es l → REs w F (es.modify j fun y => (y.1, c, y.2.2)) (l.modify j fun en => { en with key := kv, val := v })
  | [], l, j, _, h => by simp only [REs] at h; subst h; simp [REs]
  | x :: es, l, 0, hk, h => by
    simp only [REs] at h; obtain ⟨e, r, rfl, g1, g2, g3, h⟩ := h
    simp only [List.modify_zero_cons, REs]
    exact ⟨_, r, rfl, hk x (by simp), hr, g3, h⟩
  | x :: es, l, j + 1, hk, h => by
    simp only [REs] at h; obtain ⟨e, r, rfl, g1, g2, g3, h⟩ := h
    simp only [List.modify_succ_cons, REs]
    exact ⟨e, _, rfl, g1, g2, g3, REs_modify hr j (fun x hx => hk x (by simpa using hx)) h⟩
theorem mapUpdate_sound {E : Env} (h : Inv m w0 F0 K S a) (t : TypeId) (p k x : Operand) (d : Option Nat) (ty : TypeId) (pos : String) (af : Array Edge) (gg : Option (Nat × Bool)) (hy : RT K (S.ev p) (a.eval p)) (hk : RT K (S.ev k) (a.eval k)) (hx : RT K (S.ev x) (a.eval x)) {os : List (Nat × Ob)}
    (ho : mapUpdateT E.P S t (S.ev p) (S.ev k) (S.ev x) = some os) : ∃ K', (execOp a.eval ⟨d, .mapUpdate t p k x, ty, pos, af, gg⟩).run E.P K.w = .ok .skip K'.w ∧ Inv m w0 F0 K' { S with o := os } a := by
  unfold mapUpdateT at ho
  obtain ⟨e, h1, ho⟩ := Option.bind_eq_some_iff.1 ho
  obtain ⟨kt, kk, hu1, hu2⟩ := isIntMap_run h1
  split at ho
  · rename_i q k1 i1 c e1 e2 e3
    rw [e1] at hy; rw [e2] at hk; rw [e3] at hx
    have hk := RT_v hk
    simp only [RT] at hy hx
    obtain ⟨b, sh, hs, hy⟩ := hy
    split at ho
    · rename_i es cl hob
      have hro := h.oi.objs q _ _ hob hs
      simp only [RO] at hro
      obtain ⟨b', ents, h3, hF, hb, h4, h5, h6⟩ := hro
      obtain ⟨rfl, rfl⟩ := Prod.mk.inj (Option.some.inj h3)
      obtain ⟨r, h7, rfl⟩ := Option.map_eq_some_iff.1 ho
      obtain ⟨fq, h8, h9, h10⟩ := keyIx_run (kk := kk) h5 h7
      have hkey : ∀ j v, fq = some (j, v) → ∃ en, ents[j]? = some en ∧ en.key = .int k1 i1 := by
        intro j v hj
        have hr : r = some j := by rw [← h9, hj]; rfl
        obtain ⟨_, en, x', g1, g2, g3, g4, g5, g6, _⟩ := h10 j hr
        exact ⟨en, by simpa using g1, by rw [g5, g6]⟩
      have hrun := mapUpdate_run (P := E.P) (x := a.eval x) hu1 hu2 h4 h8 hkey
      refine ⟨_, (by
        simp only [execOp]
        rw [hy, hk]
        show (Sem.bind _ _).run E.P K.w = _
        rw [Sem.run_bind', hrun]; rfl), ?_⟩
      · have hext := fun o' : Obj => KExt.setMap (o := o') hF hb h4
        have hre : ∀ o' : Obj, REs (K.setMap b o').w (K.setMap b o').F es ents.toList := fun o' => REs.mono (fun _ h => h) (fun c hc => (hext o').kept c (.inl hc)) _ _ h5
        have hrc : ∀ o' : Obj, RC (K.setMap b o').w (K.setMap b o').F c (a.eval x) := fun o' => RC.mono (fun _ h => h) (fun c hc => (hext o').kept c (.inl hc)) _ _ hx
        cases hr : r with
        | some j =>
          rw [hr] at h9
          cases fq with
          | none => simp at h9
          | some pp =>
            obtain ⟨j', v'⟩ := pp
            simp at h9; subst h9
            obtain ⟨_, en, x', g1, g2, g3, g4, g5, g6, _⟩ := h10 j' hr
            refine h.writeMap hob hs hF hb h4 (es' := es.modify j' fun y => (y.1, c, y.2.2)) (cl' := cl) (fun o => ?_) ?_
            · rw [obj_setO]; split
              · rename_i e; subst e; rw [hob]; rfl
              · rfl
            · simp only [RO]
              refine ⟨b, _, rfl, hF, hb, setMap_heap _ _ _ (heap_lt h4), ?_, ?_⟩
              · rw [Array.toList_modify]
                exact REs_modify (hrc _) j' (fun x hx => by simp only [Nat.sub_zero] at g2; rw [g2] at hx; obtain rfl := Option.some.inj hx; exact g6) (hre _)
              · intro y hy'
                obtain ⟨i, hi⟩ := List.getElem?_of_mem hy'
                rw [List.getElem?_modify] at hi
                obtain ⟨z, hz1, hz2⟩ := Option.map_eq_some_iff.1 hi
                have := h6 z (List.mem_of_getElem? hz1)
                rw [← hz2]; split <;> simpa using this
        | none =>
          rw [hr] at h9
          cases fq with
          | some pp => simp at h9
          | none =>
            refine h.writeMap hob hs hF hb h4 (es' := es ++ [(.int k1 i1, c, cl)]) (cl' := cl + 1) (fun o => ?_) ?_
            · rw [obj_setO]; split
              · rename_i e; subst e; rw [hob]; rfl
              · rfl
            · simp only [RO]
              refine ⟨b, _, rfl, hF, hb, setMap_heap _ _ _ (heap_lt h4), ?_, ?_⟩
              · rw [Array.toList_push]
                exact REs_push rfl (hrc _) rfl (hre _)
              · intro y hy'
                rcases List.mem_append.1 hy' with h' | h'
                · have := h6 y h'; omega
                · simp at h'; subst h'; simp
    · simp at ho
  · simp at ho
theorem opW_sound {E : Env} (h : Inv m w0 F0 K S a) (o : Oper) {os : List (Nat × Ob)} (ho : opW E S o = some os) : ∃ K', (execOp a.eval o).run E.P K.w = .ok .skip K'.w ∧ Inv m w0 F0 K' { S with o := os } a := by
  obtain ⟨d, op, ty, pos, af, gg⟩ := o
  have ev : ∀ x, RT K (S.ev x) (a.eval x) := fun x => RT_ev fun t _ => h.tm t
  cases op <;> simp only [opW] at ho
  case store t y z => exact store_sound h t y z d ty pos af gg (ev y) (ev z) ho
  case mapUpdate t p k x => exact mapUpdate_sound h t p k x d ty pos af gg (ev p) (ev k) (ev x) ho
  all_goals simp at ho
end
end Go.Proofs.Ytnbijiopcgfmfaa.Tev
