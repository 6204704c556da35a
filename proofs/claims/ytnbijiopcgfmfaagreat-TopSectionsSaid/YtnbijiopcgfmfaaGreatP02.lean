/- Part 2: TevOps3, TevOps4, TevOps5, TevOps6, TevOps7, TevMap, TevN. -/
import Derived.Test.YtnbijiopcgfmfaaGreatP01
import Derived.Laws.Tables
/- Slices, structs, rows, maps. -/
namespace Go.Proofs.YtnbijiopcgfmfaaGreat.Tev
open Go Go.RowKit
set_option linter.unusedSectionVars false
set_option linter.unusedVariables false
set_option linter.unusedSimpArgs false

section
variable {P : Program} {K : Ctx} {n : Nat} {ob : Nat → Option Ob} {a : Act}

theorem bound_run {x : T} {y k : Nat} {u : Value} (h : boundI x y = some k) (r : RT K x u) (z : Nat) (hz : y ≤ z) (code : BoundsCode) (w : World) : (Instr.sliceBound u z code).run P w = .ok k w ∧ k ≤ y := by
  unfold boundI at h
  obtain ⟨i, h1, h⟩ := Option.bind_eq_some_iff.1 h
  obtain ⟨kk, rfl⟩ := asI_sound h1 r
  split at h
  · rename_i hb
    obtain rfl := Option.some.inj h
    refine ⟨?_, by omega⟩
    simp only [Instr.sliceBound, asIntOf, bind, Pure.pure, Sem.bind]
    rw [if_pos ⟨hb.1, by omega⟩]; rfl
  · simp at h
theorem lowB_run {lo : Option T} {h l h' : Nat} {cp cp' : Option Nat} {ulo : Option Value} (he : lowB lo h cp = some (l, h', cp')) (r : ∀ x, lo = some x → ∃ u, ulo = some u ∧ RT K x u) (rn : lo = none → ulo = none) (code : BoundsCode) (w : World) :
    (match ulo with | some v => Instr.sliceBound v h code | none => (Pure.pure 0 : Sem Nat)).run P w = .ok l w ∧ l ≤ h ∧ h' = h ∧ cp' = cp := by
  cases lo with
  | none =>
    simp [lowB] at he
    obtain ⟨rfl, rfl, rfl⟩ := he
    rw [rn rfl]
    exact ⟨rfl, Nat.zero_le _, rfl, rfl⟩
  | some x =>
    obtain ⟨u, rfl, hr⟩ := r x rfl
    simp only [lowB] at he
    obtain ⟨k, h1, h2⟩ := Option.map_eq_some_iff.1 he
    simp only [Prod.mk.injEq] at h2
    obtain ⟨rfl, rfl, rfl⟩ := h2
    have := bound_run (P := P) h1 hr h (Nat.le_refl _) code w
    exact ⟨this.1, this.2, rfl, rfl⟩
theorem sliceBnd_run {len c : Nat} {cap : Option Nat} {lo hi mx : Option T} {ulo uhi umx : Option Value} {l h : Nat} {cp : Option Nat} (hc : len ≤ c) (hex : exact? cap c)
    (rlo : ∀ x, lo = some x → ∃ u, ulo = some u ∧ RT K x u) (rlo' : lo = none → ulo = none) (rhi : ∀ x, hi = some x → ∃ u, uhi = some u ∧ RT K x u) (rhi' : hi = none → uhi = none)
    (rmx : ∀ x, mx = some x → ∃ u, umx = some u ∧ RT K x u) (rmx' : mx = none → umx = none) (he : sliceBnd len cap lo hi mx = some (l, h, cp)) :
    ∃ m, (∀ w, (Instr.sliceBounds true len c ulo uhi umx).run P w = .ok (l, h, m) w) ∧ l ≤ h ∧ h ≤ m ∧ h ≤ len ∧ m ≤ c ∧ exact? cp m := by
  cases mx with
  | none =>
    rw [rmx' rfl]
    cases hi with
    | none =>
      rw [rhi' rfl]
      simp only [sliceBnd] at he
      obtain ⟨hr, h1, rfl, rfl⟩ := lowB_run (P := P) he rlo rlo' .sliceB default
      refine ⟨c, fun w => ?_, h1, hc, Nat.le_refl _, Nat.le_refl _, hex⟩
      have hr := (lowB_run (P := P) he rlo rlo' .sliceB w).1
      simp only [Instr.sliceBounds, bind, Pure.pure, Sem.bind, Sem.run_bind', Option.isSome, Bool.false_eq_true, if_false] at hr ⊢
      cases ulo with
      | none => simp only [Sem.run, Result.ok.injEq, and_true] at hr ⊢; simp [hr]
      | some v => simp only [Sem.run_bind'] at hr ⊢; rw [hr]; rfl
    | some x =>
      obtain ⟨u, rfl, hu⟩ := rhi x rfl
      simp only [sliceBnd] at he
      obtain ⟨hh, h1, he⟩ := Option.bind_eq_some_iff.1 he
      obtain ⟨_, h2, rfl, rfl⟩ := lowB_run (P := P) he rlo rlo' .sliceB default
      have h3 := (bound_run (P := P) h1 hu c hc .sliceAcap default).2
      refine ⟨c, fun w => ?_, h2, by omega, h3, Nat.le_refl _, hex⟩
      have hr := (lowB_run (P := P) he rlo rlo' .sliceB w).1
      have hr2 := (bound_run (P := P) h1 hu c hc .sliceAcap w).1
      simp only [Instr.sliceBounds, bind, Pure.pure, Sem.bind, Sem.run_bind', Option.isSome, Bool.false_eq_true, if_false, if_true] at hr ⊢
      rw [hr2]
      simp only [Result.andThen]
      cases ulo with
      | none => simp only [Sem.run, Result.ok.injEq, and_true] at hr ⊢; simp [hr]
      | some v => simp only [Sem.run_bind'] at hr ⊢; rw [hr]; rfl
  | some y =>
    obtain ⟨v, rfl, hv⟩ := rmx y rfl
    cases hi with
    | none => simp [sliceBnd] at he
    | some x =>
      obtain ⟨u, rfl, hu⟩ := rhi x rfl
      simp only [sliceBnd] at he
      obtain ⟨m, h0, he⟩ := Option.bind_eq_some_iff.1 he
      obtain ⟨hh, h1, he⟩ := Option.bind_eq_some_iff.1 he
      obtain ⟨_, h2, rfl, rfl⟩ := lowB_run (P := P) he rlo rlo' .slice3C default
      have h3 := (bound_run (P := P) h1 hu m (Nat.le_refl _) .slice3B default).2
      have h4 := (bound_run (P := P) h0 hv c hc .slice3Acap default).2
      refine ⟨m, fun w => ?_, h2, h3, by omega, by omega, fun k hk => by simpa using hk⟩
      have hr := (lowB_run (P := P) he rlo rlo' .slice3C w).1
      have hr2 := (bound_run (P := P) h1 hu m (Nat.le_refl _) .slice3B w).1
      have hr3 := (bound_run (P := P) h0 hv c hc .slice3Acap w).1
      simp only [Instr.sliceBounds, bind, Pure.pure, Sem.bind, Sem.run_bind', Option.isSome, if_true] at hr ⊢
      rw [hr3]
      simp only [Result.andThen]
      rw [hr2]
      simp only [Result.andThen]
      cases ulo with
      | none => simp only [Sem.run, Result.ok.injEq, and_true] at hr ⊢; simp [hr]
      | some v => simp only [Sem.run_bind'] at hr ⊢; rw [hr]; rfl
theorem exact_sub {cp : Option Nat} {m l : Nat} (h : exact? cp m) : exact? (cp.map (· - l)) (m - l) := by
  intro k hk
  obtain ⟨c, h1, rfl⟩ := Option.map_eq_some_iff.1 hk
  rw [h c h1]
theorem rowAt_zero (l : List C) (o : Nat) : rowAt l o 0 = [] := by simp [rowAt]
theorem slice_sound (t : TypeId) (y : Operand) (lo hi mx : Option Operand) (d : Option Nat) (ty : TypeId) (pos : String) (af : Array Edge) (g : Option (Nat × Bool)) {S : St} {x : T}
    (hy : RT K (S.ev y) (a.eval y)) (hr : ∀ z, lo = some z ∨ hi = some z ∨ mx = some z → RT K (S.ev z) (a.eval z))
    (h : sliceO P S t (S.ev y) (lo.map S.ev) (hi.map S.ev) (mx.map S.ev) = some x) : Does P K n ob a ⟨d, .slice t y lo hi mx, ty, pos, af, g⟩ x [] [] := by
  unfold sliceO at h
  obtain ⟨e, h1, h⟩ := Option.bind_eq_some_iff.1 h
  obtain ⟨sz, h2, h⟩ := Option.bind_eq_some_iff.1 h
  have rel : ∀ q : Option Operand, (∀ z, q = some z → RT K (S.ev z) (a.eval z)) → (∀ x, q.map S.ev = some x → ∃ u, q.map a.eval = some u ∧ RT K x u) ∧ (q.map S.ev = none → q.map a.eval = none) := by
    intro q hq
    cases q with
    | none => simp
    | some z => exact ⟨fun x hx => by simp at hx; subst hx; exact ⟨_, rfl, hq z rfl⟩, by simp⟩
  obtain ⟨r1, r1'⟩ := rel lo fun z hz => hr z (.inl hz)
  obtain ⟨r2, r2'⟩ := rel hi fun z hz => hr z (.inr (.inl hz))
  obtain ⟨r3, r3'⟩ := rel mx fun z hz => hr z (.inr (.inr hz))
  have key : ∀ (A : Option Addr) (len c l h m : Nat), a.eval y = .slice A len c → (∀ w, (Instr.sliceBounds true len c (lo.map a.eval) (hi.map a.eval) (mx.map a.eval)).run P w = .ok (l, h, m) w) →
      RT K x (.slice (if m = l then A else A.map (·.add (l * sz))) (h - l) (m - l)) → Does P K n ob a ⟨d, .slice t y lo hi mx, ty, pos, af, g⟩ x [] [] := by
    intro A len c l h m e1 e2 r
    refine .pure ?_ r
    simp only [execOp]
    rw [run_value, e1]
    simp only [Instr.sliceAt, Instr.slice, bind, Sem.run_bind', under_run (elemOf_run h1), Result.andThen, e2, szOf_run h2, Pure.pure, Sem.run]
  unfold sliceT at h
  split at h
  · rename_i cap len l e1
    obtain ⟨p, h3, rfl⟩ := Option.map_eq_some_iff.1 h
    obtain ⟨lo', hi', cp⟩ := p
    rw [e1] at hy; simp only [RT, RC] at hy
    obtain ⟨A, c, e2, h4, h5, h6⟩ := hy
    obtain ⟨m, h7, h8, h9, h10, h11, h12⟩ := sliceBnd_run (P := P) h4 h5 r1 r1' r2 r2' r3 r3' h3
    refine key A len c lo' hi' m e2 h7 ?_
    simp only [RT, RC]
    refine ⟨_, _, rfl, by omega, exact_sub h12, ?_⟩
    by_cases hz : hi' - lo' = 0
    · exact .inl ⟨hz, by rw [hz, Nat.zero_mul, rowAt_zero]⟩
    · rcases h6 with ⟨rfl, _⟩ | ⟨b, o, rfl, hF, hl⟩
      · omega
      · rw [if_neg (by omega)]
        exact .inr ⟨b, o + lo' * sz, by simp [Addr.add0], hF, RCs_row hl _ _⟩
  · rename_i cap len l e1
    obtain ⟨p, h3, rfl⟩ := Option.map_eq_some_iff.1 h
    obtain ⟨lo', hi', cp⟩ := p
    rw [e1] at hy; simp only [RT] at hy
    obtain ⟨A, c, e2, h4, h5, h6⟩ := hy
    obtain ⟨m, h7, h8, h9, h10, h11, h12⟩ := sliceBnd_run (P := P) h4 h5 r1 r1' r2 r2' r3 r3' h3
    refine key A len c lo' hi' m e2 h7 ?_
    simp only [RT]
    refine ⟨_, _, rfl, by omega, exact_sub h12, ?_⟩
    by_cases hz : hi' - lo' = 0
    · exact .inl ⟨hz, by rw [hz, Nat.zero_mul, rowAt_zero]⟩
    · rcases h6 with ⟨rfl, _⟩ | ⟨b, o, rfl, hF, hl⟩
      · omega
      · rw [if_neg (by omega)]
        exact .inr ⟨b, o + lo' * sz, by simp [Addr.add0], hF, RCs_row hl _ _⟩
  · rename_i o off len sz' cap e1
    split at h
    · rename_i hsz
      subst hsz
      obtain ⟨p, h3, rfl⟩ := Option.map_eq_some_iff.1 h
      obtain ⟨lo', hi', cp⟩ := p
      rw [e1] at hy; simp only [RT] at hy
      obtain ⟨A, c, e2, h4, h5, h6⟩ := hy
      obtain ⟨m, h7, h8, h9, h10, h11, h12⟩ := sliceBnd_run (P := P) h4 h5 r1 r1' r2 r2' r3 r3' h3
      refine key A len c lo' hi' m e2 h7 ?_
      simp only [RT]
      refine ⟨_, _, rfl, by omega, exact_sub h12, ?_⟩
      rcases h6 with ⟨rfl, s, hs⟩ | ⟨b, sh, hs, rfl, cs, ee, fr, hb, hroom⟩
      · exact .inl ⟨by omega, s, hs⟩
      · by_cases hm : m = lo'
        · exact .inl ⟨by omega, _, hs⟩
        · rw [if_neg hm]
          refine .inr ⟨b, sh, hs, by simp [Addr.add0, Nat.add_assoc], cs, ee, fr, hb, ?_⟩
          have : lo' * sz' + (m - lo') * sz' ≤ c * sz' := by rw [← Nat.add_mul]; exact Nat.mul_le_mul_right _ (by omega)
          omega
    · simp at h
  · simp at h

/-! Structs. -/
theorem fill_one (cells : Array Value) (v : Array Value) (off : Nat) (h : off + v.size ≤ cells.size) :
    v.zipIdx.foldl (fun cs (x : Value × Nat) => cs.setIfInBounds (off + x.2) x.1) cells = (splice cells.toList off v.toList).toArray := by
  have key : ∀ (l : List Value) (i : Nat) (cs : List Value), off + i + l.length ≤ cs.length →
      (l.zipIdx i).foldl (fun (cs : Array Value) (x : Value × Nat) => cs.setIfInBounds (off + x.2) x.1) cs.toArray = (splice cs (off + i) l).toArray := by
    intro l
    induction l with
    | nil => intro i cs _; simp [splice]
    | cons u l ih =>
      intro i cs hl
      simp only [List.zipIdx_cons, List.foldl_cons, List.setIfInBounds_toArray]
      rw [ih (i + 1) (cs.set (off + i) u) (by simp at hl ⊢; omega)]
      congr 1
      apply List.ext_getElem?
      intro j
      simp only [splice, List.length_cons] at hl ⊢
      simp only [List.getElem?_append, List.getElem?_take, List.getElem?_drop, List.length_append, List.length_take, List.length_set, List.getElem?_set, List.getElem?_cons]
      repeat' split
      all_goals (try simp only [List.length_cons] at *)
      all_goals (try omega)
      all_goals (try rfl)
      all_goals (congr 1; omega)
  have := key v.toList 0 cells.toList (by simpa using h)
  simp only [Nat.add_zero, Array.toArray_toList] at this
  rw [← this, ← Array.foldl_toList, Array.toList_zipIdx]

theorem fill_sound {plT plV : Nat → Option (Nat × Nat)} (hpl : ∀ i p, plT i = some p → plV i = some p) : ∀ (ps : List (Nat × T)) (vs : List (Nat × Value)) (cs : List T) (us : Array Value) (r : List T),
    RTs K cs us.toList → vs.length = ps.length → (∀ (j : Nat) (p : Nat × T) (q : Nat × Value), ps[j]? = some p → vs[j]? = some q → p.1 = q.1 ∧ RT K p.2 q.2) → fillT plT cs ps = some r →
    ∃ vr : Array Value, Instr.fill plV us vs = some vr ∧ RTs K r vr.toList
  | [], vs, cs, us, r, hl, hlen, _, h => by
    simp [fillT] at h; subst h
    obtain rfl : vs = [] := List.length_eq_zero_iff.1 (by simpa using hlen)
    exact ⟨us, rfl, hl⟩
  | (i, x) :: ps, vs, cs, us, r, hl, hlen, hrel, h => by
    cases vs with
    | nil => simp at hlen
    | cons q vs =>
      obtain ⟨i', v⟩ := q
      obtain ⟨e1, r1⟩ := hrel 0 (i, x) (i', v) rfl rfl
      simp only at e1 r1
      subst e1
      simp only [fillT] at h
      obtain ⟨p, h1, h⟩ := Option.bind_eq_some_iff.1 h
      obtain ⟨l, h2, h⟩ := Option.bind_eq_some_iff.1 h
      split at h
      · rename_i hb
        have hc := cellsOf_sound h2 r1
        have hcl := RTs_length _ _ hc
        have hul := RTs_length _ _ hl
        simp only [Array.length_toList] at hcl hul
        obtain ⟨off, sz⟩ := p
        simp only at hb
        have hnew : RTs K (splice cs off l) (splice us.toList off v.cells.toList) := RTs_splice hl hc off
        obtain ⟨vr, h3, h4⟩ := fill_sound hpl ps vs _ ((splice us.toList off v.cells.toList).toArray) r (by simpa using hnew) (by simpa using hlen)
          (fun j p q hp hq => hrel (j + 1) p q (by simpa using hp) (by simpa using hq)) h
        refine ⟨vr, ?_, h4⟩
        simp only [Instr.fill, hpl i _ h1]
        rw [if_neg (by simp; omega), fill_one us v.cells off (by omega)]
        exact h3
      · simp at h
theorem parts_rel {S : St} (ps : Array (Nat × Operand)) (hr : ∀ p ∈ ps, RT K (S.ev p.2) (a.eval p.2)) :
    ((ps.map fun (i, x) => (i, a.eval x)).toList.length = (ps.toList.map fun p => (p.1, S.ev p.2)).length) ∧
    ∀ (j : Nat) (p : Nat × T) (q : Nat × Value), (ps.toList.map fun p => (p.1, S.ev p.2))[j]? = some p → (ps.map fun (i, x) => (i, a.eval x)).toList[j]? = some q → p.1 = q.1 ∧ RT K p.2 q.2 := by
  refine ⟨by simp, fun j p q hp hq => ?_⟩
  simp only [Array.toList_map, List.getElem?_map] at hp hq
  cases hj : ps.toList[j]? with
  | none => simp [hj] at hp
  | some z =>
    simp only [hj, Option.map_some, Option.some.injEq] at hp hq
    subst hp; subst hq
    exact ⟨rfl, hr z (by have := List.mem_of_getElem? hj; simpa using this)⟩
theorem run_mapM_places (w : World) : ∀ (l : List Field) (r : List (Nat × Nat)), mapO (fun f : Field => (szOf P f.type).map fun s => (f.offset, s)) l = some r →
    (l.mapM fun f => (Sem.bind (sizeOf f.type) fun s => Sem.pure (f.offset, s)) : Sem (List (Nat × Nat))).run P w = .ok r w
  | [], r, h => by simp [mapO] at h; subst h; rfl
  | f :: l, r, h => by
    simp only [mapO] at h
    obtain ⟨y, h1, h⟩ := Option.bind_eq_some_iff.1 h
    obtain ⟨z, h2, rfl⟩ := Option.map_eq_some_iff.1 h
    obtain ⟨s, h3, rfl⟩ := Option.map_eq_some_iff.1 h1
    have ih := run_mapM_places w l z h2
    rw [List.mapM_cons]
    simp only [bind, Sem.run_bind', szOf_run h3, Result.andThen, Pure.pure, Sem.run]
    rw [ih]
theorem build_sound (t : TypeId) (ps : Array (Nat × Operand)) (d : Option Nat) (ty : TypeId) (pos : String) (af : Array Edge) (g : Option (Nat × Bool)) {S : St} {x : T}
    (hr : ∀ p ∈ ps, RT K (S.ev p.2) (a.eval p.2)) (h : buildT P t (ps.toList.map fun p => (p.1, S.ev p.2)) = some x) : Does P K n ob a ⟨d, .build t ps, ty, pos, af, g⟩ x [] [] := by
  unfold buildT at h
  obtain ⟨z, h1, h⟩ := Option.bind_eq_some_iff.1 h
  obtain ⟨pl, h2, h⟩ := Option.bind_eq_some_iff.1 h
  obtain ⟨r, h3, rfl⟩ := Option.map_eq_some_iff.1 h
  obtain ⟨v, h4, h5, _⟩ := zero_run h1
  obtain ⟨hp1, hp2⟩ := parts_rel ps hr
  unfold placesOf at h2
  split at h2
  · rename_i fs hu
    obtain ⟨l, h6, rfl⟩ := Option.map_eq_some_iff.1 h2
    obtain ⟨vr, h7, h8⟩ := fill_sound (plT := (Pl.st l).at) (plV := (l.toArray[·]?)) (fun i p hi => by simpa [Pl.at] using hi) _ _ z v.cells r (h5 K) hp1 hp2 h3
    refine .pure (val := .agg vr) ?_ (by simp only [RT]; exact ⟨vr.toList, by simp, h8⟩)
    have hm : ∀ w, (fs.mapM fun f => (Sem.bind (sizeOf f.type) fun s => Sem.pure (f.offset, s)) : Sem (Array (Nat × Nat))).run P w = .ok l.toArray w := by
      intro w
      rw [Array.mapM_eq_mapM_toList]
      show (Sem.bind _ _).run P w = _
      rw [Sem.run_bind', run_mapM_places w _ _ h6]
      rfl
    simp only [execOp]
    rw [run_value]
    simp only [Instr.build, bind, Sem.run_bind', h4, Result.andThen, under_run hu, Pure.pure, hm, h7, Sem.run]
  · rename_i k e hu
    obtain ⟨sz, h6, rfl⟩ := Option.map_eq_some_iff.1 h2
    obtain ⟨vr, h7, h8⟩ := fill_sound (plT := (Pl.ar sz).at) (plV := fun i => some (i * sz, sz)) (fun i p hi => by simpa [Pl.at] using hi) _ _ z v.cells r (h5 K) hp1 hp2 h3
    refine .pure (val := .agg vr) ?_ (by simp only [RT]; exact ⟨vr.toList, by simp, h8⟩)
    simp only [execOp]
    rw [run_value]
    simp only [Instr.build, bind, Sem.run_bind', h4, Result.andThen, under_run hu, Pure.pure, szOf_run h6, h7, Sem.run]
  · simp at h2
end
end Go.Proofs.YtnbijiopcgfmfaaGreat.Tev
/- Rows that are made, maps, and what is asked of them. -/
namespace Go.Proofs.YtnbijiopcgfmfaaGreat.Tev
open Go Go.RowKit
set_option linter.unusedSectionVars false
set_option linter.unusedVariables false
set_option linter.unusedSimpArgs false

/-! Freezing. -/
def frzF (K : Ctx) (ob : Nat → Option Ob) (fz : List Nat) : Nat → Prop := fun b => K.F b ∨ ∃ o l g e sh, ob o = some (.arr l g e) ∧ g ∈ fz ∧ K.σ o = some (some (b, sh))
def Ctx.frz (K : Ctx) (ob : Nat → Option Ob) (fz : List Nat) : Ctx := { K with F := frzF K ob fz }

section
variable {P : Program} {K : Ctx} {n : Nat} {ob : Nat → Option Ob} {a : Act}
theorem KExt.frz (fz : List Nat) : KExt K (K.frz ob fz) := ⟨rfl, fun _ h => .inl h, fun _ _ h => h, fun _ _ => rfl, fun _ cs e fr h => ⟨cs, e, fr, h, rfl⟩⟩
theorem Good.frz (hg : Good K) (hobj : ∀ o x s, ob o = some x → K.σ o = some s → RO K s x) (fz : List Nat) : Good (K.frz ob fz) := by
  refine ⟨fun b h => ?_, hg.base⟩
  rcases h with h | ⟨o, l, g, e, sh, h1, _, h3⟩
  · exact hg.F b h
  · have := hobj _ _ _ h1 h3
    simp only [RO] at this
    rcases this with ⟨h, _⟩ | ⟨b', sh', cs, et, h4, _, _, h5, _⟩
    · simp at h
    · obtain ⟨rfl, rfl⟩ := Prod.mk.inj (Option.some.inj h4)
      exact heap_lt h5
theorem Step.ofFrz {fz : List Nat} {x : T} {nw : List Ob} {K' : Ctx} {val : Value} (hk : ∀ l g gen, nw = [.arr l g (gen + 1)] → 0 < gen → False) (h : Step (K.frz ob fz) n ob x nw [] K' val) : Step K n ob x nw fz K' val where
  ext := (KExt.frz fz).trans h.ext
  below := h.below
  val := h.val
  new := h.new
  dom := h.dom
  F := fun b hb => by
    rcases h.F b hb with (h1 | h1) | h1 | ⟨o, l, g, e, sh, _, h2, _⟩
    · exact .inl h1
    · exact .inr (.inr h1)
    · exact .inr (.inl h1)
    · simp at h2
  frz := fun o l g e b sh h1 h2 h3 => h.ext.F b (.inr ⟨o, l, g, e, sh, h1, h2, h3⟩)
  place := fun i b sh hi he => by
    rcases h.place i b sh hi he with h | ⟨o, l, l', g, gen, _, h1, h2, h3, h4⟩
    · exact .inl h
    · exact (hk _ _ _ h1 h3).elim
  apart := h.apart
  kept := by
    rcases h.kept with h | ⟨o, l, l', g, gen, b, sh, cs, cs', e, h0, h1, h2, h3, h4, h5, h6, h7, h8⟩
    · exact .inl h
    · exact (hk _ _ _ h1 h3).elim
theorem toC_sound (hobj : ∀ o x s, ob o = some x → K.σ o = some s → RO K s x) {S : St} (hob : ob = obj S.o) {x : T} {c : C} {gs fz : List Nat} {u : Value} (h : toC S x = some (c, gs)) (hz : ∀ g ∈ gs, g ∈ fz) (r : RT K x u) : RC K.w (frzF K ob fz) c u := by
  have hm : ∀ (c : C) (u : Value), RC K.w K.F c u → RC K.w (frzF K ob fz) c u := fun c u => RC.mono (fun b h => .inl h) (fun _ _ => rfl) c u
  unfold toC at h
  split at h
  · simp at h; obtain ⟨rfl, rfl⟩ := h
    simp only [RT] at r; exact hm _ _ r
  · rename_i o off n sz cap
    simp only [RT] at r
    obtain ⟨A, c', rfl, h1, h2, h3⟩ := r
    split at h
    · rename_i l g gen hl
      simp at h; obtain ⟨rfl, rfl⟩ := h
      simp only [RC]
      refine ⟨A, c', rfl, h1, fun k hk => by simp at hk, ?_⟩
      rcases h3 with ⟨rfl, s, hs⟩ | ⟨b, sh, hs, rfl, _⟩
      · exact .inl ⟨by omega, by rw [show n = 0 by omega, Nat.zero_mul, rowAt_zero]⟩
      · have ho := hobj o _ _ (by rw [hob]; exact hl) hs
        simp only [RO] at ho
        rcases ho with ⟨h, _⟩ | ⟨b', sh', cs, et, h4, _, _, h5, h6⟩
        · simp at h
        · obtain ⟨rfl, rfl⟩ := Prod.mk.inj (Option.some.inj h4)
          exact .inr ⟨b, sh + off, rfl, .inr ⟨o, l, g, gen, sh, by rw [hob]; exact hl, hz g (by simp), hs⟩, RCs_row (RCs.mono (fun b h => .inl h) (fun _ _ => rfl) b rfl _ _ h6) _ _⟩
    · rename_i l hl
      simp at h; obtain ⟨rfl, rfl⟩ := h
      simp only [RC]
      refine ⟨A, c', rfl, h1, fun k hk => by simp at hk, ?_⟩
      rcases h3 with ⟨rfl, s, hs⟩ | ⟨b, sh, hs, rfl, _⟩
      · exact .inl ⟨by omega, by rw [show n = 0 by omega, Nat.zero_mul, rowAt_zero]⟩
      · have ho := hobj o _ _ (by rw [hob]; exact hl) hs
        simp only [RO] at ho
        rcases ho with ⟨h, _⟩ | ⟨b', sh', h4, h5, h6⟩
        · simp at h
        · obtain ⟨rfl, rfl⟩ := Prod.mk.inj (Option.some.inj h4)
          exact .inr ⟨b, sh + off, rfl, .inl h5, RCs_row (RCs.mono (fun b h => .inl h) (fun _ _ => rfl) b rfl _ _ h6) _ _⟩
    · simp at h
  · simp at h
theorem toCs_sound (hobj : ∀ o x s, ob o = some x → K.σ o = some s → RO K s x) {S : St} (hob : ob = obj S.o) : ∀ {l : List T} {cs : List C} {gs fz : List Nat} {us : List Value}, toCs S l = some (cs, gs) → (∀ g ∈ gs, g ∈ fz) → RTs K l us →
    cs.length = us.length ∧ ∀ (i : Nat) (c : C), cs[i]? = some c → ∃ u, us[i]? = some u ∧ RC K.w (frzF K ob fz) c u
  | [], cs, gs, fz, us, h, hz, r => by
    simp [toCs] at h; obtain ⟨rfl, rfl⟩ := h
    simp only [RTs] at r; subst r
    exact ⟨rfl, fun i c hi => by simp at hi⟩
  | x :: l, cs, gs, fz, us, h, hz, r => by
    simp only [toCs] at h
    obtain ⟨⟨c, g1⟩, h1, h⟩ := Option.bind_eq_some_iff.1 h
    obtain ⟨⟨cs', g2⟩, h2, h3⟩ := Option.map_eq_some_iff.1 h
    simp only [Prod.mk.injEq] at h3
    obtain ⟨rfl, rfl⟩ := h3
    simp only [RTs] at r
    obtain ⟨u, vs, rfl, r1, r2⟩ := r
    obtain ⟨h4, h5⟩ := toCs_sound hobj hob (fz := fz) h2 (fun g hg => hz g (by simp [hg])) r2
    refine ⟨by simp [h4], fun i c' hi => ?_⟩
    cases i with
    | zero => simp at hi; subst hi; exact ⟨u, rfl, toC_sound hobj hob h1 (fun g hg => hz g (by simp [hg])) r1⟩
    | succ i => simpa using h5 i c' (by simpa using hi)

/-! Many zeros. -/
theorem range_mod (zs : List Value) (sz : Nat) (hz : zs.length = sz) (h0 : 0 < sz) : ∀ k, (List.range (k * sz)).map (fun i => zs.toArray[i % zs.toArray.size]!) = (List.replicate k zs).flatten
  | 0 => by simp
  | k + 1 => by
    rw [Nat.add_mul, Nat.one_mul, List.range_add, List.map_append, range_mod zs sz hz h0 k, List.replicate_succ', List.flatten_append]
    congr 1
    simp only [List.flatten_singleton, List.map_map]
    apply List.ext_getElem
    · simp [hz]
    · intro i h1 h2
      simp only [List.length_map, List.length_range] at h1
      simp only [List.getElem_map, List.getElem_range, Function.comp_apply, List.size_toArray, hz]
      rw [show k * sz + i = i + k * sz by omega, Nat.add_mul_mod_self_right, Nat.mod_eq_of_lt h1]
      have h2' : i < zs.length := by omega
      rw [getElem!_pos zs.toArray i (by simpa using h2')]
      exact List.getElem_toArray _
theorem flatten_map_cell (zs : List Value) : ∀ k, (List.replicate k (zs.map cellT)).flatten = ((List.replicate k zs).flatten).map cellT
  | 0 => rfl
  | k + 1 => by rw [List.replicate_succ, List.replicate_succ, List.flatten_cons, List.flatten_cons, List.map_append, flatten_map_cell zs k]
theorem run_zero_cells {e : TypeId} {z : List T} {sz k : Nat} (h : zeroOf P e = some z) (hz : z.length = sz) : ∃ zs : List Value, z = zs.map cellT ∧ zs.length = sz ∧ ∃ za : Array Value,
    (∀ (α : Type) (f : Array Value → Sem α) (w : World), (if k * sz = 0 then (Sem.pure #[]).bind f else (zeroValue e).bind fun v => (Sem.pure v.cells).bind f).run P w = (f za).run P w) ∧ ((Array.range (k * sz)).map (fun i => za[i % za.size]!)).toList = (List.replicate k zs).flatten := by
  obtain ⟨v, h1, _, h3⟩ := zero_run h
  refine ⟨v.cells.toList, h3, by rw [← hz, h3]; simp, ?_⟩
  have hl : v.cells.toList.length = sz := by rw [← hz, h3]; simp
  by_cases h0 : k * sz = 0
  · refine ⟨#[], fun α f w => by rw [if_pos h0]; rfl, ?_⟩
    rw [h0]
    simp only [Array.toList_map, Array.toList_range, List.range_zero, List.map_nil]
    rcases Nat.mul_eq_zero.1 h0 with rfl | rfl
    · rfl
    · have : v.cells.toList = [] := List.length_eq_zero_iff.1 hl
      rw [this]; simp
  · refine ⟨v.cells, fun α f w => ?_, ?_⟩
    · rw [if_neg h0, Sem.run_bind', h1]; rfl
    · have := range_mod v.cells.toList sz hl (Nat.pos_of_ne_zero fun h => h0 (by rw [h, Nat.mul_zero])) k
      simpa using this
/-- A row is laid: step. -/
theorem Step.row (hg : Good K) (hobj : ∀ o x s, ob o = some x → K.σ o = some s → RO K s x) (hn : K.σ n = none) {l : List C} {us : List Value} {fz : List Nat} {len sz : Nat} (e : TypeId) (hlen : len * sz ≤ us.length)
    (hl : ∀ (i : Nat) (c : C), l[i]? = some c → ∃ u, us[i]? = some u ∧ RC K.w (frzF K ob fz) c u) :
    Step K n ob (.sl n 0 len sz (some len)) [.arr l n 1] fz ((K.frz ob fz).alloc n (.cells us.toArray e)) (.slice (some ⟨K.w.heap.size, 0, none⟩) len len) := by
  have hg' := hg.frz hobj fz
  refine .ofFrz (fun l g gen h h0 => by simp at h; omega) (.alloc hg' hn _ ?_ ?_)
  · simp only [RT]
    exact ⟨_, len, rfl, Nat.le_refl _, fun k hk => by simpa using hk, .inr ⟨K.w.heap.size, 0, by simp [Ctx.alloc, Ctx.frz], rfl, us.toArray, e, (0, 0), heap_alloc_new _ _, by simpa using hlen⟩⟩
  · simp only [RO]
    refine .inr ⟨K.w.heap.size, 0, us.toArray, e, rfl, fun hf => by have := hg'.F _ hf; exact Nat.lt_irrefl _ this, hg.base, heap_alloc_new _ _, ?_⟩
    refine RCs_mk (heap_alloc_new _ _) 0 l fun i c hc => ?_
    obtain ⟨u, hu, r⟩ := hl i c hc
    exact ⟨u, by simpa using hu, RC.mono (fun b h => h) (fun b h => heap_alloc_lt _ _ _ (hg'.F b h)) _ _ r⟩
theorem buildSlice_sound (hg : Good K) (hobj : ∀ o x s, ob o = some x → K.σ o = some s → RO K s x) (hn : K.σ n = none) (t : TypeId) (k : Nat) (ps : Array (Nat × Operand)) (d : Option Nat) (ty : TypeId) (pos : String) (af : Array Edge) (g : Option (Nat × Bool)) {S : St} (hob : ob = obj S.o) (hSn : S.n = n) {x : T} {nw : List Ob} {fz : List Nat}
    (hr : ∀ p ∈ ps, RT K (S.ev p.2) (a.eval p.2)) (h : buildSliceT P S t k (ps.toList.map fun p => (p.1, S.ev p.2)) = some (x, nw, fz)) : Does P K n ob a ⟨d, .buildSlice t k ps, ty, pos, af, g⟩ x nw fz := by
  subst hSn
  unfold buildSliceT at h
  obtain ⟨e, h1, h⟩ := Option.bind_eq_some_iff.1 h
  obtain ⟨sz, h2, h⟩ := Option.bind_eq_some_iff.1 h
  obtain ⟨z, h3, h⟩ := Option.bind_eq_some_iff.1 h
  split at h
  · rename_i hb
    obtain ⟨c, h4, h⟩ := Option.bind_eq_some_iff.1 h
    obtain ⟨⟨q, gs⟩, h5, h⟩ := Option.map_eq_some_iff.1 h
    simp only [Prod.mk.injEq] at h
    obtain ⟨rfl, rfl, rfl⟩ := h
    obtain ⟨zs, hz1, hz2, za, hz4, hz5⟩ := run_zero_cells (k := k) h3 hb.2
    obtain ⟨hp1, hp2⟩ := parts_rel ps hr
    have hz : RTs K ((List.replicate k z).flatten) ((Array.range (k * sz)).map (fun i => za[i % za.size]!)).toList := by
      rw [hz5, hz1, flatten_map_cell]; exact RTs_cellT K _
    obtain ⟨vr, h7, h8⟩ := fill_sound (plT := fun i => some (i * sz, sz)) (plV := fun i => some (i * sz, sz)) (fun i p hi => hi) _ _ _ _ c hz hp1 hp2 h4
    obtain ⟨h9, h10⟩ := toCs_sound hobj hob (fz := gs) h5 (fun g hg => hg) h8
    have hlen : vr.toList.length = k * sz := by
      have e1 := RTs_length _ _ h8
      have fl : ∀ (ps : List (Nat × T)) (cs r : List T), fillT (fun i => some (i * sz, sz)) cs ps = some r → r.length = cs.length := by
        intro ps
        induction ps with
        | nil => intro cs r h; simp [fillT] at h; subst h; rfl
        | cons p ps ih =>
          intro cs r h
          obtain ⟨i, x⟩ := p
          simp only [fillT] at h
          obtain ⟨p, hp, h⟩ := Option.bind_eq_some_iff.1 h
          obtain ⟨l, hl, h⟩ := Option.bind_eq_some_iff.1 h
          split at h
          · rename_i hb
            rw [ih _ _ h]
            simp [splice]; omega
          · simp at h
      rw [e1, fl _ _ _ h4]
      simp [hb.2]
    refine .inl ⟨_, _, ?_, Step.row hg hobj hn (us := vr.toList) (len := k) (sz := sz) e (by omega) h10⟩
    simp only [execOp]
    rw [run_value]
    simp only [Instr.buildSlice, bind, Sem.run_bind', under_run (elemOf_run h1), Result.andThen, szOf_run h2, Pure.pure]
    rw [if_neg (by omega)]
    rw [hz4]
    simp only [h7, Sem.run_bind', newRow, newObj, bind, Sem.run, Sem.bind, Pure.pure, Result.andThen, World.alloc_eq]
    rfl
  · simp at h
theorem makeMap_sound (hg : Good K) (hn : K.σ n = none) (t : TypeId) (r : Option Operand) (d : Option Nat) (ty : TypeId) (pos : String) (af : Array Edge) (g : Option (Nat × Bool)) {x : T} {nw : List Ob}
    (h : makeMapT P n t r = some (x, nw)) : Does P K n ob a ⟨d, .makeMap t r, ty, pos, af, g⟩ x nw [] := by
  unfold makeMapT at h
  split at h
  · obtain ⟨e, _, h2⟩ := Option.map_eq_some_iff.1 h
    obtain ⟨rfl, rfl⟩ := Prod.mk.inj h2
    refine .inl ⟨_, _, ?_, Step.alloc (ob := ob) hg hn (.map #[] 0) (val := .map (some K.w.heap.size)) ?_ ?_⟩
    · simp only [execOp]
      rw [run_value]
      simp only [Instr.makeMap, Option.map_none, newObj, bind, Pure.pure, Sem.bind, Sem.run, World.alloc_eq, Result.andThen]
      rfl
    · simp only [RT]; exact ⟨_, 0, by simp [Ctx.alloc], rfl⟩
    · simp only [RO]
      exact ⟨_, #[], rfl, fun hf => by have := hg.F _ hf; exact Nat.lt_irrefl _ this, hg.base, heap_alloc_new _ _, by simp [REs], by simp⟩
  · simp at h
theorem wrap_small {x : Int} (h0 : 0 ≤ x) (h1 : x ≤ 140737488355328) : IntKind.i64.wrap x = x := by
  simp only [IntKind.wrap, IntKind.bits, IntKind.signed]
  have : x % (2 ^ 64 : Int) = x := Int.emod_eq_of_lt h0 (by omega)
  simp only [this]
  rw [if_neg (by simp; omega)]
theorem makeSlice_sound (hg : Good K) (hobj : ∀ o x s, ob o = some x → K.σ o = some s → RO K s x) (hn : K.σ n = none) (t : TypeId) (y z : Operand) (d : Option Nat) (ty : TypeId) (pos : String) (af : Array Edge) (g : Option (Nat × Bool)) {S : St} (hSn : S.n = n) {x : T} {nw : List Ob}
    (hy : RT K (S.ev y) (a.eval y)) (hz : RT K (S.ev z) (a.eval z)) (h : makeSliceT P S t (S.ev y) (S.ev z) = some (x, nw)) : Does P K n ob a ⟨d, .makeSlice t y z, ty, pos, af, g⟩ x nw [] := by
  subst hSn
  unfold makeSliceT at h
  obtain ⟨e, h1, h⟩ := Option.bind_eq_some_iff.1 h
  obtain ⟨sz, h2, h⟩ := Option.bind_eq_some_iff.1 h
  obtain ⟨by_, h3, h⟩ := Option.bind_eq_some_iff.1 h
  obtain ⟨zz, h4, h⟩ := Option.bind_eq_some_iff.1 h
  split at h
  · rename_i i j e1 e2
    rw [e1] at hy; rw [e2] at hz
    have hy := RT_v hy
    have hz := RT_v hz
    split at h
    · rename_i hb
      obtain ⟨b1, rfl, b2, b3, rfl⟩ := hb
      split at h
      · rename_i v
        simp only [Option.some.injEq, Prod.mk.injEq] at h
        obtain ⟨rfl, rfl⟩ := h
        obtain ⟨info, h5, h6⟩ := bytes_run h3
        obtain ⟨v0, hv1, _, hv3⟩ := zero_run h4
        obtain ⟨u, hu0⟩ : ∃ u, v0.cells = #[u] := by
          have hl := congrArg List.length hv3
          simp at hl
          obtain ⟨cs⟩ : Nonempty (List Value) := ⟨v0.cells.toList⟩
          match hc : v0.cells.toList, (show v0.cells.toList.length = 1 by simpa using hl.symm) with
          | [u], _ => exact ⟨u, by rw [← Array.toArray_toList (xs := v0.cells), hc]⟩
        have hv : cellT u = .c (.v v) := by rw [hu0] at hv3; simp at hv3; exact hv3.symm
        have hu : RC K.w K.F (.v v) u := by have := RT_cellT K u; rw [hv] at this; simpa only [RT] using this
        have st := Step.row (ob := ob) hg hobj hn (l := List.replicate i.toNat (.v v)) (us := List.replicate i.toNat u) (fz := []) (len := i.toNat) (sz := 1) e (by simp)
          (fun k c hc => by
            rw [List.getElem?_replicate] at hc
            split at hc
            · rename_i hk
              obtain rfl := Option.some.inj hc
              exact ⟨u, by rw [List.getElem?_replicate, if_pos hk], RC.mono (fun b h => .inl h) (fun _ _ => rfl) _ _ hu⟩
            · simp at hc)
        refine .inl ⟨_, _, ?_, st⟩
        simp only [execOp]
        rw [run_value, hy, hz]
        have t1 : ¬ ((info.bytes : Int) * i > 2 ^ 48) := by rw [h6, Int.mul_comm]; omega
        have t2 : ¬ i < 0 := by omega
        simp only [Instr.makeSlice, bind, Sem.run_bind', under_run (elemOf_run h1), Result.andThen, asInt, asIntOf, Pure.pure, Sem.bind, info_run h5, wrap_small b1 b2]
        simp only [t1, t2, decide_false, Bool.or_self, Bool.false_eq_true, if_false, Int.lt_irrefl, gt_iff_lt]
        have hroom : ∀ k w, (askRoom k).run P w = .ok () w := fun k w => by unfold askRoom; split <;> rfl
        rw [Sem.run_bind', hroom]
        simp only [Sem.run_bind', szOf_run h2, Result.andThen, Nat.mul_one]
        by_cases h0 : i.toNat = 0
        · simp only [h0, if_true, Sem.run_bind', newRow, newObj, bind, Sem.run, Sem.bind, Pure.pure, Result.andThen, World.alloc_eq]
          simp only [Ctx.alloc, Ctx.frz]
          rw [show Array.range 0 = #[] from rfl, Array.map_empty]
          rfl
        · have hr := range_mod [u] 1 rfl (by omega) i.toNat
          rw [Nat.mul_one] at hr
          have hrow : Array.map (fun x => (#[u] : Array Value)[x % (#[u] : Array Value).size]!) (Array.range i.toNat) = (List.replicate i.toNat u).toArray := by
            apply Array.toList_inj.1
            simp only [Array.toList_map, Array.toList_range, hr]
            simp
          simp only [h0, if_false, Sem.run_bind', hv1, hu0, Result.andThen, newRow, newObj, bind, Sem.run, Sem.bind, Pure.pure, World.alloc_eq, hrow]
          rfl
      · simp at h
    · simp at h
  · simp at h

end
end Go.Proofs.YtnbijiopcgfmfaaGreat.Tev
/- The built-in functions, append first. -/
namespace Go.Proofs.YtnbijiopcgfmfaaGreat.Tev
open Go Go.RowKit
set_option linter.unusedSectionVars false
set_option linter.unusedVariables false
set_option linter.unusedSimpArgs false
section
variable {P : Program} {K : Ctx} {n : Nat} {ob : Nat → Option Ob} {a : Act}

/-- The cells that a slice shows, read. -/
theorem shown_sound (hg : Good K) (hobj : ∀ o x s, ob o = some x → K.σ o = some s → RO K s x) {S : St} (hob : ob = obj S.o) {x : T} {m sz : Nat} {l : List C} {u : Value} (h : shown S x = some (m, l)) (hl : l.length = m * sz) (r : RT K x u) :
    ∃ A c, u = .slice A m c ∧ ∃ us : List Value, us.length = m * sz ∧ (∀ w : World, (∀ b, b < K.w.heap.size → w.heap[b]? = K.w.heap[b]?) → (Builtin.firstCells sz m u).run P w = .ok us.toArray w) ∧ ∀ (i : Nat) (c : C), l[i]? = some c → ∃ v, us[i]? = some v ∧ RC K.w K.F c v := by
  have key : ∀ (A : Option Addr) (c : Nat), u = .slice A m c → ((m = 0 ∧ l = []) ∨ ∃ b o, A = some ⟨b, o, none⟩ ∧ b < K.w.heap.size ∧ RCs K.w K.F b o l) →
      ∃ A c, u = .slice A m c ∧ ∃ us : List Value, us.length = m * sz ∧ (∀ w : World, (∀ b, b < K.w.heap.size → w.heap[b]? = K.w.heap[b]?) → (Builtin.firstCells sz m u).run P w = .ok us.toArray w) ∧ ∀ (i : Nat) (c : C), l[i]? = some c → ∃ v, us[i]? = some v ∧ RC K.w K.F c v := by
    intro A c e hh
    refine ⟨A, c, e, ?_⟩
    rcases hh with ⟨rfl, rfl⟩ | ⟨b, o, rfl, hb, hr⟩
    · refine ⟨[], by simp, fun w _ => ?_, fun i c hi => by simp at hi⟩
      rw [e]
      cases A with
      | none => rfl
      | some ad => simp only [Builtin.firstCells, Nat.zero_mul]; rfl
    · let us : List Value := (List.range (m * sz)).map fun j => (K.w.cell? ⟨b, o + j, none⟩).getD undef
      have hus : ∀ (j : Nat) (v : Value), us[j]? = some v → K.w.cell? ⟨b, o + j, none⟩ = some v ∧ j < m * sz := fun j v hj => by
        have hlt : j < m * sz := by
          rcases Nat.lt_or_ge j (m * sz) with h' | h'
          · exact h'
          · simp [us, h'] at hj
        obtain ⟨x, hx⟩ : ∃ x, l[j]? = some x := ⟨l[j], List.getElem?_eq_getElem (by omega)⟩
        obtain ⟨v', hv', _⟩ := RCs_get _ _ _ _ hr hx
        simp [us, hlt, hv'] at hj
        exact ⟨by rw [hv', hj], hlt⟩
      refine ⟨us, by simp [us], fun w hw => ?_, fun i x hx => ?_⟩
      · rw [e]
        simp only [Builtin.firstCells]
        have hlen : us.length = m * sz := by simp [us]
        rw [← hlen]
        exact run_loadCells_list (P := P) w ⟨b, o, none⟩ us fun j v hv => by
          rw [Addr.add0, cell_of_heap (hw b hb)]; exact (hus j v hv).1
      · obtain ⟨v, hv, hr'⟩ := RCs_get _ _ _ _ hr hx
        have hi : i < m * sz := by rw [← hl]; rcases Nat.lt_or_ge i l.length with h' | h'; exact h'; simp [h'] at hx
        exact ⟨v, by simp [us, hi, hv], hr'⟩
  unfold shown at h
  split at h
  · simp only [Option.some.injEq, Prod.mk.injEq] at h; obtain ⟨rfl, rfl⟩ := h
    simp only [RT, RC] at r
    obtain ⟨A, c, e, _, _, h4⟩ := r
    exact key A c e (h4.imp id fun ⟨b, o, e, hF, hr⟩ => ⟨b, o, e, hg.F b hF, hr⟩)
  · simp only [Option.some.injEq, Prod.mk.injEq] at h; obtain ⟨rfl, rfl⟩ := h
    simp only [RT] at r
    obtain ⟨A, c, e, _, _, h4⟩ := r
    exact key A c e (h4.imp id fun ⟨b, o, e, hF, hr⟩ => ⟨b, o, e, Nat.lt_of_lt_of_le hF hg.base, hr⟩)
  · rename_i o off k sz' cap
    simp only [RT] at r
    obtain ⟨A, c, e, hc, _, h4⟩ := r
    split at h
    · rename_i l' g gen ho
      simp only [Option.some.injEq, Prod.mk.injEq] at h; obtain ⟨rfl, rfl⟩ := h
      refine key A c e ?_
      rcases h4 with ⟨rfl, _⟩ | ⟨b, sh, hs, rfl, cs, ee, fr, hb, _⟩
      · exact .inl ⟨by omega, by rw [show k = 0 by omega, Nat.zero_mul, rowAt_zero]⟩
      · have hro := hobj o _ _ (by rw [hob]; exact ho) hs
        simp only [RO] at hro
        rcases hro with ⟨h, _⟩ | ⟨b', sh', cs', et, h5, _, _, _, h6⟩
        · simp at h
        · obtain ⟨rfl, rfl⟩ := Prod.mk.inj (Option.some.inj h5)
          exact .inr ⟨b, _, rfl, heap_lt hb, RCs_row h6 _ _⟩
    · rename_i l' ho
      simp only [Option.some.injEq, Prod.mk.injEq] at h; obtain ⟨rfl, rfl⟩ := h
      refine key A c e ?_
      rcases h4 with ⟨rfl, _⟩ | ⟨b, sh, hs, rfl, cs, ee, fr, hb, _⟩
      · exact .inl ⟨by omega, by rw [show k = 0 by omega, Nat.zero_mul, rowAt_zero]⟩
      · have hro := hobj o _ _ (by rw [hob]; exact ho) hs
        simp only [RO] at hro
        rcases hro with ⟨h, _⟩ | ⟨b', sh', h5, _, h6⟩
        · simp at h
        · obtain ⟨rfl, rfl⟩ := Prod.mk.inj (Option.some.inj h5)
          exact .inr ⟨b, _, rfl, heap_lt hb, RCs_row h6 _ _⟩
    · simp at h
  · simp at h

theorem nextslicecap_le (need cap by_ : Nat) (h : cap < need) (hb : need * by_ ≤ 140737488355328) : ¬ Builtin.nextslicecap need cap * by_ > 2 ^ 48 := by
  have grow : ∀ (r c : Nat), c ≤ need + (need + 768) / 4 → Builtin.growBy need r c ≤ need + (need + 768) / 4 := by
    intro r
    induction r with
    | zero => intro c hc; exact hc
    | succ r ih =>
      intro c hc
      simp only [Builtin.growBy]
      split
      · exact hc
      · refine ih _ ?_; omega
  have hle : Builtin.nextslicecap need cap ≤ 2 * need ∨ (Builtin.nextslicecap need cap ≤ need + (need + 768) / 4 ∧ 256 ≤ need) := by
    unfold Builtin.nextslicecap
    split
    · left; omega
    · split
      · left; omega
      · right; exact ⟨grow 4 cap (by omega), by omega⟩
  have : Builtin.nextslicecap need cap ≤ 2 * need := by
    rcases hle with h1 | ⟨h1, h2⟩
    · exact h1
    · omega
  have h2 : Builtin.nextslicecap need cap * by_ ≤ 2 * (need * by_) := by rw [← Nat.mul_assoc]; exact Nat.mul_le_mul_right _ this
  omega
theorem run_builtin (b : Builtin) (args : Array Operand) (ats : Array TypeId) (d : Option Nat) (ty : TypeId) (pos : String) (af : Array Edge) (g : Option (Nat × Bool)) (w : World) :
    ∃ consts, (execOp a.eval ⟨d, .call ⟨.builtin b, args, ats⟩, ty, pos, af, g⟩).run P w = (builtin b ats ty consts (args.map a.eval)).run P w := ⟨_, rfl⟩
theorem run_append {t0 t1 e e1 : TypeId} {sz : Nat} {ats : Array TypeId} (h0 : ats[0]? = some t0) (he : elemOf P t0 = some e) (h1 : ats[1]? = some t1) (he1 : elemOf P t1 = some e1) (hs : szOf P e = some sz)
    (ty : TypeId) (base A : Option Addr) (sl sc m c : Nat) (us : List Value) (w : World) (hm : (Builtin.firstCells sz m (.slice A m c)).run P w = .ok us.toArray w) (hle : sl + m ≤ sc) {w' : World}
    (hst : (match base with | some ad => storeCells (ad.add (sl * sz)) us | none => (Pure.pure () : Sem Unit)).run P w = .ok () w') :
    (Builtin.append_ ats ty #[.slice base sl sc, .slice A m c]).run P w = .ok (.slice base (sl + m) sc) w' := by
  simp only [Builtin.append_, h0, h1, bind, Pure.pure, List.getElem?_toArray, List.getElem?_cons_zero, List.getElem?_cons_succ, Sem.bind]
  simp only [Sem.run_bind', under_run (elemOf_run he), under_run (elemOf_run he1), Result.andThen, szOf_run hs, Builtin.lenOf, Sem.run, Sem.bind, Bool.false_eq_true, if_false]
  rw [show Sem.run P (pure m : Sem Nat) w = .ok m w from rfl]
  simp only
  rw [if_pos hle, Sem.run_bind', if_pos (show (!false) = true from rfl), hm]
  simp only [Result.andThen]
  cases base with
  | none => simp only [Pure.pure, Sem.run, Result.ok.injEq, true_and] at hst ⊢; exact hst
  | some ad => simp only [Sem.run_bind'] at hst ⊢; rw [hst]; rfl
theorem run_append_new {t0 t1 e e1 : TypeId} {sz by_ : Nat} {ats : Array TypeId} {z : List T} (h0 : ats[0]? = some t0) (he : elemOf P t0 = some e) (h1 : ats[1]? = some t1) (he1 : elemOf P t1 = some e1) (hs : szOf P e = some sz)
    (hby : bytesOf P e = some by_) (hby0 : 0 < by_) (hz : zeroOf P e = some z) (hzl : z.length = sz) (ty : TypeId) (base A : Option Addr) (sl sc m c : Nat) (us uo : List Value) (w : World)
    (hm : (Builtin.firstCells sz m (.slice A m c)).run P w.drew = .ok us.toArray w.drew) (ho : (Builtin.firstCells sz sl (.slice base sl sc)).run P w.drew = .ok uo.toArray w.drew) (hle : ¬ sl + m ≤ sc) (hb : (sl + m) * by_ ≤ 140737488355328) :
    ∃ cap rest, sl + m ≤ cap ∧ rest.length = (cap - (sl + m)) * sz ∧
    (Builtin.append_ ats ty #[.slice base sl sc, .slice A m c]).run P w = .ok (.slice (some ⟨w.heap.size, 0, none⟩) (sl + m) cap) (w.drew.alloc (.cells (uo ++ us ++ rest).toArray e)) := by
  obtain ⟨info, h5, h6⟩ := bytes_run hby
  obtain ⟨v0, hv1, _, hv3⟩ := zero_run hz
  have hv : v0.cells.size = sz := by rw [← hzl, hv3]; simp
  have hneed : sl + m ≤ 140737488355328 := Nat.le_trans (Nat.le_mul_of_pos_right _ hby0) hb
  have c1 : ¬ (((sl + m : Nat) : Int) > IntKind.i64.max ∧ (False ∨ info.bytes = 0)) := by rintro ⟨_, h | h⟩; exact h; omega
  have c2 : ¬ Builtin.nextslicecap (sl + m) sc * info.bytes > 2 ^ 48 := by rw [h6]; exact nextslicecap_le _ _ _ (by omega) hb
  refine ⟨(Question.appendCap (sl + m) sc e).cut (w.tape w.drawn (.appendCap (sl + m) sc e)), (Builtin.zeroCells v0.cells (((Question.appendCap (sl + m) sc e).cut (w.tape w.drawn (.appendCap (sl + m) sc e))) - (sl + m))).toList, ?_, ?_, ?_⟩
  · simp only [Question.cut]; omega
  · simp [Builtin.zeroCells, hv]
  generalize hcap : (Question.appendCap (sl + m) sc e).cut (w.tape w.drawn (.appendCap (sl + m) sc e)) = cap
  have hch : (choose (.appendCap (sl + m) sc e)).run P w = .ok cap w.drew := by
    simp [choose, Sem.run, Question.forced, hcap]
  have hroom : ∀ k w, (askRoom k).run P w = .ok () w := fun k w => by unfold askRoom; split <;> rfl
  simp only [Builtin.append_, h0, h1, bind, Pure.pure, List.getElem?_toArray, List.getElem?_cons_zero, List.getElem?_cons_succ, Sem.bind]
  simp only [Sem.run_bind', under_run (elemOf_run he), under_run (elemOf_run he1), Result.andThen, szOf_run hs, Builtin.lenOf, Sem.run, Sem.bind, Bool.false_eq_true, if_false]
  rw [show Sem.run P (pure m : Sem Nat) w = .ok m w from rfl]
  simp only
  rw [if_neg hle, Sem.run_bind', info_run h5]
  simp only [Result.andThen]
  rw [if_neg c1, Sem.run_bind', info_run h5]
  simp only [Result.andThen]
  rw [if_neg c2, Sem.run_bind', hch]
  simp only [Result.andThen, Sem.run_bind', info_run h5, hroom, ho, hm, hv1, newRow, newObj, bind, Sem.run, Sem.bind, Pure.pure, World.alloc_eq, Bool.not_false, if_true, World.size_drew]
  have : (uo.toArray ++ us.toArray ++ Builtin.zeroCells v0.cells (cap - (sl + m))) = (uo ++ us ++ (Builtin.zeroCells v0.cells (cap - (sl + m))).toList).toArray := by
    apply Array.toList_inj.1; simp
  rw [this]

def Ctx.draw (K : Ctx) : Ctx := { K with w := K.w.drew }
theorem KExt.draw : KExt K K.draw := ⟨rfl, fun _ h => h, fun _ _ h => h, fun _ _ => rfl, fun _ cs e fr h => ⟨cs, e, fr, h, rfl⟩⟩
theorem Good.draw (hg : Good K) : Good K.draw := ⟨hg.F, hg.base⟩
theorem Step.ofDraw {fz : List Nat} {x : T} {nw : List Ob} {K' : Ctx} {val : Value} (h : Step K.draw n ob x nw fz K' val) : Step K n ob x nw fz K' val :=
  ⟨KExt.draw.trans h.ext, ((Below.refl _ _).drew).trans h.below, h.val, h.new, h.dom, h.F, h.frz, h.place, h.apart, h.kept⟩
def Ctx.grow (K : Ctx) (n b sh : Nat) (cs : Array Value) : Ctx := { K with w := K.w.setRow b cs, σ := fun m => if m = n then some (some (b, sh)) else K.σ m }
theorem setRow_other (w : World) (g : Nat) (cs : Array Value) (b : Nat) (h : b ≠ g) : (w.setRow g cs).heap[b]? = w.heap[b]? := by
  simp only [World.setRow, Array.getElem?_modify]
  rw [if_neg (by omega)]
theorem setRow_size (w : World) (g : Nat) (cs : Array Value) : (w.setRow g cs).heap.size = w.heap.size := by simp [World.setRow]
theorem setRow_below {B : Nat} {w : World} {g : Nat} {cs : Array Value} (h : B ≤ g) : Below B w (w.setRow g cs) :=
  ⟨rfl, rfl, rfl, by rw [setRow_size]; exact Nat.le_refl _, fun k hk => setRow_other _ _ _ _ (by omega)⟩
/-- An empty row without a block. -/
def Ctx.void (K : Ctx) (n : Nat) : Ctx := { K with σ := fun m => if m = n then some none else K.σ m }
theorem Step.void (hn : K.σ n = none) {x : T} {g gen : Nat} {val : Value} (hx : RT (K.void n) x val) : Step K n ob x [.arr [] g gen] [] (K.void n) val where
  ext := ⟨rfl, fun _ h => h, fun o s h => by
    show (if o = n then _ else K.σ o) = _
    split
    · rename_i e; subst e; rw [hn] at h; simp at h
    · exact h, fun _ _ => rfl, fun _ cs e fr h => ⟨cs, e, fr, h, rfl⟩⟩
  below := Below.refl _ _
  val := hx
  new := fun i y h => by
    cases i with
    | zero => simp at h; subst h; exact ⟨none, by simp [Ctx.void], by simp only [RO]; exact .inl ⟨trivial, trivial⟩⟩
    | succ i => simp at h
  dom := fun m s h => by
    have h' : (if m = n then some none else K.σ m) = some s := h
    split at h'
    · rename_i e; exact .inr ⟨0, by simp, by simpa using e⟩
    · exact .inl h'
  F := fun b h => .inl h
  frz := fun o l g e b sh _ h => by simp at h
  place := fun i b sh hi h => by
    have : i = 0 := by simp at hi; omega
    subst this
    simp [Ctx.void] at h
  apart := fun i j b sh sh' hi hj _ _ => by simp at hi hj; omega
  kept := .inl fun b hb => rfl
/-- A new row behind an append. -/
theorem Step.newRow (hg : Good K) (hn : K.σ n = none) {l l' : List C} {g gen k m cap sz : Nat} {uo us rest : List Value} (e : TypeId) (hcap : k + m ≤ cap) (hlen : uo.length = k * sz) (hlen' : us.length = m * sz) (hrest : rest.length = (cap - (k + m)) * sz)
    (hll : l.length = k * sz) (hl : ∀ (i : Nat) (c : C), l[i]? = some c → ∃ v, uo[i]? = some v ∧ RC K.w K.F c v) (hl' : ∀ (i : Nat) (c : C), l'[i]? = some c → ∃ v, us[i]? = some v ∧ RC K.w K.F c v) :
    Step K n ob (.sl n 0 (k + m) sz none) [.arr (l ++ l') g gen] [] (K.draw.alloc n (.cells (uo ++ us ++ rest).toArray e)) (.slice (some ⟨K.w.heap.size, 0, none⟩) (k + m) cap) := by
  have hg' : Good K.draw := hg.draw
  refine .ofDraw (.alloc hg' hn _ ?_ ?_)
  · simp only [RT]
    refine ⟨_, cap, rfl, hcap, fun q hq => by simp at hq, .inr ⟨K.w.heap.size, 0, by simp [Ctx.alloc, Ctx.draw], rfl, _, e, (0, 0), heap_alloc_new _ _, ?_⟩⟩
    simp only [List.size_toArray, List.length_append, hlen, hlen', hrest, Nat.zero_add]
    rw [← Nat.add_mul, ← Nat.add_mul]
    exact Nat.mul_le_mul_right _ (by omega)
  · simp only [RO]
    refine .inr ⟨K.w.heap.size, 0, _, e, rfl, fun hf => by have := hg.F _ hf; exact Nat.lt_irrefl _ this, hg.base, heap_alloc_new _ _, ?_⟩
    refine RCs_mk (heap_alloc_new _ _) 0 _ fun i c hc => ?_
    have up : ∀ c v, RC K.w K.F c v → RC (K.draw.alloc n (.cells (uo ++ us ++ rest).toArray e)).w K.F c v := fun c v r => RC.mono (w := K.w) (fun b h => h) (fun b h => heap_alloc_lt K.w.drew _ _ (hg.F b h)) _ _ r
    by_cases hi : i < l.length
    · rw [List.getElem?_append_left hi] at hc
      obtain ⟨v, hv, r⟩ := hl i c hc
      refine ⟨v, ?_, up _ _ r⟩
      simp only [Nat.zero_add, List.getElem?_toArray]
      rw [List.append_assoc, List.getElem?_append_left (by omega)]; exact hv
    · rw [List.getElem?_append_right (by omega)] at hc
      obtain ⟨v, hv, r⟩ := hl' _ c hc
      have hlt : i - l.length < us.length := by rcases Nat.lt_or_ge (i - l.length) us.length with h' | h'; exact h'; simp [h'] at hv
      refine ⟨v, ?_, up _ _ r⟩
      simp only [Nat.zero_add, List.getElem?_toArray]
      rw [List.append_assoc, List.getElem?_append_right (by omega), List.getElem?_append_left (by omega), hlen, ← hll]; exact hv
end
end Go.Proofs.YtnbijiopcgfmfaaGreat.Tev
/- Append. -/
namespace Go.Proofs.YtnbijiopcgfmfaaGreat.Tev
open Go Go.RowKit
set_option linter.unusedSectionVars false
set_option linter.unusedVariables false
set_option linter.unusedSimpArgs false
section
variable {P : Program} {K : Ctx} {n : Nat} {ob : Nat → Option Ob} {a : Act}
theorem RC_one {w : World} {F : Nat → Prop} {c : C} {u : Value} (h : RC w F c u) : u.oneCell' = true := by
  cases c with
  | v x => simp only [RC] at h; obtain ⟨rfl, hf⟩ := h; cases u <;> first | rfl | (simp [flat] at hf)
  | s cap n l => simp only [RC] at h; obtain ⟨A, c, rfl, _⟩ := h; rfl
theorem one_of {w : World} {F : Nat → Prop} {l : List C} {us : List Value} {k : Nat} (h1 : us.length = k) (h2 : l.length = k) (h : ∀ (i : Nat) (c : C), l[i]? = some c → ∃ v, us[i]? = some v ∧ RC w F c v) : ∀ v ∈ us, v.oneCell' = true := by
  intro v hv
  obtain ⟨i, hi, rfl⟩ := List.mem_iff_getElem.1 hv
  obtain ⟨v', h3, h4⟩ := h i l[i] (List.getElem?_eq_getElem (by omega))
  rw [List.getElem?_eq_getElem hi] at h3
  obtain rfl := Option.some.inj h3
  exact RC_one h4
/-- An append into the row's own block. -/
theorem Step.inPlace (hg : Good K) (hn : K.σ n = none) {o b sh g gen k m cap sz : Nat} {l l' : List C} {us : List Value} {cs : Array Value} {e : TypeId} (ho : ob o = some (.arr l g gen)) (hgen : 0 < gen) (hs : K.σ o = some (some (b, sh)))
    (hF : ¬ K.F b) (hb : K.base ≤ b) (hh : K.w.heap[b]? = some (.cells cs e (0, 0))) (hr : RCs K.w K.F b sh l) (hll : l.length = k * sz) (hlen' : us.length = m * sz) (hcap : k + m ≤ cap) (hroom : sh + cap * sz ≤ cs.size)
    (hl' : ∀ (i : Nat) (c : C), l'[i]? = some c → ∃ v, us[i]? = some v ∧ RC K.w K.F c v) :
    Step K n ob (.sl n 0 (k + m) sz none) [.arr (l ++ l') g (gen + 1)] [] (K.grow n b sh (cs.toList.take (sh + k * sz) ++ us ++ cs.toList.drop (sh + k * sz + us.length)).toArray) (.slice (some ⟨b, sh, none⟩) (k + m) cap) := by
  have hsz : (k + m) * sz ≤ cap * sz := Nat.mul_le_mul_right _ hcap
  rw [Nat.add_mul] at hsz
  generalize hcs : (cs.toList.take (sh + k * sz) ++ us ++ cs.toList.drop (sh + k * sz + us.length)) = cs'
  have hsize : cs'.length = cs.size := by rw [← hcs]; simp; omega
  have hnew : (K.w.setRow b cs'.toArray).heap[b]? = some (.cells cs'.toArray e (0, 0)) := setRow_heap _ _ _ _ _ _ hh
  have hkeep : ∀ i, i < sh + k * sz → cs'[i]? = cs[i]? := fun i hi => by
    rw [← hcs, List.append_assoc, List.getElem?_append_left (by simp; omega), List.getElem?_take, if_pos hi]; simp
  have hput : ∀ i, i < us.length → cs'[sh + k * sz + i]? = us[i]? := fun i hi => by
    have h1 : (cs.toList.take (sh + k * sz)).length = sh + k * sz := by simp; omega
    rw [← hcs, List.append_assoc, List.getElem?_append_right (by omega), List.getElem?_append_left (by omega), h1, Nat.add_sub_cancel_left]
  have hFk : ∀ c, K.F c → (K.w.setRow b cs'.toArray).heap[c]? = K.w.heap[c]? := fun c hc => setRow_other _ _ _ _ fun h => hF (h ▸ hc)
  have hext : KExt K (K.grow n b sh cs'.toArray) := {
    base := rfl
    F := fun _ h => h
    σ := fun o s h => by
      show (if o = n then _ else K.σ o) = _
      split
      · rename_i e; subst e; rw [hn] at h; simp at h
      · exact h
    kept := fun c hc => hc.elim (hFk c) fun h => setRow_other _ _ _ _ (Nat.ne_of_lt (Nat.lt_of_lt_of_le h hb))
    sizes := fun c q e' fr h => by
      by_cases hc : c = b
      · subst hc
        rw [hh] at h
        simp only [Option.some.injEq, Obj.cells.injEq] at h
        obtain ⟨rfl, rfl, rfl⟩ := h
        exact ⟨_, _, _, hnew, hsize⟩
      · exact ⟨q, e', fr, (setRow_other _ _ _ _ hc).trans h, rfl⟩ }
  exact {
    ext := hext
    below := setRow_below hb
    val := by
      simp only [RT]
      exact ⟨_, cap, rfl, hcap, fun q hq => by simp at hq, .inr ⟨b, sh, by simp [Ctx.grow], rfl, _, e, (0, 0), hnew, by simp only [List.size_toArray, hsize]; omega⟩⟩
    new := fun i y h => by
      cases i with
      | zero =>
        simp at h; subst h
        refine ⟨some (b, sh), by simp [Ctx.grow], ?_⟩
        simp only [RO]
        refine .inr ⟨b, sh, _, e, rfl, hF, hb, hnew, ?_⟩
        refine RCs_mk hnew sh _ fun i c hc => ?_
        have up : ∀ c v, RC K.w K.F c v → RC (K.grow n b sh cs'.toArray).w K.F c v := fun c v r => RC.mono (fun b h => h) (fun c hc => hFk c hc) _ _ r
        by_cases hi : i < l.length
        · rw [List.getElem?_append_left hi] at hc
          obtain ⟨v, hv, r⟩ := RCs_get _ _ _ _ hr hc
          refine ⟨v, ?_, up _ _ r⟩
          simp only [List.getElem?_toArray]
          rw [hkeep _ (by omega)]
          simpa [World.cell?, hh] using hv
        · rw [List.getElem?_append_right (by omega)] at hc
          obtain ⟨v, hv, r⟩ := hl' _ c hc
          have hlt : i - l.length < us.length := by rcases Nat.lt_or_ge (i - l.length) us.length with h' | h'; exact h'; simp [h'] at hv
          refine ⟨v, ?_, up _ _ r⟩
          simp only [List.getElem?_toArray]
          rw [show sh + i = sh + k * sz + (i - l.length) by omega, hput _ hlt]; exact hv
      | succ i => simp at h
    dom := fun m s h => by
      have h' : (if m = n then some (some (b, sh)) else K.σ m) = some s := h
      split at h'
      · rename_i e; exact .inr ⟨0, by simp, by simpa using e⟩
      · exact .inl h'
    F := fun b h => .inl h
    frz := fun o l g e b sh _ h => by simp at h
    place := fun i b' sh' hi h => by
      have : i = 0 := by simp at hi; omega
      subst this
      simp [Ctx.grow] at h
      obtain ⟨rfl, rfl⟩ := h
      exact .inr ⟨o, l, l ++ l', g, gen, rfl, rfl, ho, hgen, hs, by simp⟩
    apart := fun i j b sh sh' hi hj _ _ => by simp at hi hj; omega
    kept := .inr ⟨o, l, l ++ l', g, gen, b, sh, cs, cs'.toArray, e, rfl, rfl, ho, hgen, hs, fun c _ hc => setRow_other _ _ _ _ hc, hh, hnew, fun i hi => by
      have := hkeep i (by omega); simpa using this⟩ }
theorem append_sound (hg : Good K) (hobj : ∀ o x s, ob o = some x → K.σ o = some s → RO K s x) (hn : K.σ n = none) {t0 t1 e e1 : TypeId} {ats : Array TypeId} (h0 : ats[0]? = some t0) (he : elemOf P t0 = some e) (h1 : ats[1]? = some t1) (he1 : elemOf P t1 = some e1)
    (y z : Operand) (d : Option Nat) (ty : TypeId) (pos : String) (af : Array Edge) (gg : Option (Nat × Bool)) {S : St} (hob : ob = obj S.o) (hSn : S.n = n) {x : T} {nw : List Ob}
    (hy : RT K (S.ev y) (a.eval y)) (hz : RT K (S.ev z) (a.eval z)) (h : appendT P S e (S.ev y) (S.ev z) = some (x, nw)) :
    Does P K n ob a ⟨d, .call ⟨.builtin .append, #[y, z], ats⟩, ty, pos, af, gg⟩ x nw [] := by
  subst hSn
  unfold appendT at h
  obtain ⟨sz, h2, h⟩ := Option.bind_eq_some_iff.1 h
  obtain ⟨by_, h3, h⟩ := Option.bind_eq_some_iff.1 h
  obtain ⟨zz, h4, h⟩ := Option.bind_eq_some_iff.1 h
  obtain ⟨⟨m, l'⟩, h5, h⟩ := Option.bind_eq_some_iff.1 h
  split at h
  · rename_i hb
    obtain ⟨hb1, hb2, hb3⟩ := hb
    simp only at hb1
    obtain ⟨A, c, ez, us, hus, hrun, hl'⟩ := shown_sound (P := P) hg hobj hob h5 hb1 hz
    have fin : ∀ (v : Value) (K' : Ctx), (Builtin.append_ ats ty #[a.eval y, a.eval z]).run P K.w = .ok v K'.w → Step K S.n ob x nw [] K' v → Does P K S.n ob a ⟨d, .call ⟨.builtin .append, #[y, z], ats⟩, ty, pos, af, gg⟩ x nw [] := by
      intro v K' hr st
      refine .inl ⟨v, K', ?_, st⟩
      obtain ⟨cc, hc⟩ := run_builtin (P := P) (a := a) .append #[y, z] ats d ty pos af gg K.w
      rw [hc]
      simp only [builtin]
      rw [run_value]
      rw [show (#[y, z] : Array Operand).map a.eval = #[a.eval y, a.eval z] by simp, hr]
      rfl
    split at h
    · rename_i es
      -- nil
      rw [es] at hy
      simp only [RT, RC] at hy
      obtain ⟨A0, c0, ey, _, hex, _⟩ := hy
      obtain rfl := hex 0 rfl
      simp only [app1] at h
      split at h
      · rename_i hbound
        simp only [Option.some.injEq, Prod.mk.injEq] at h
        obtain ⟨rfl, rfl⟩ := h
        by_cases hm : m = 0
        · subst hm
          have hl0 : l' = [] := List.length_eq_zero_iff.1 (by simpa using hb1)
          have hus0 : us = [] := List.length_eq_zero_iff.1 (by simpa using hus)
          subst hl0; subst hus0
          refine fin (.slice A0 0 0) (K.void S.n) ?_ (Step.void hn ?_)
          · rw [ey, ez]
            have hf := hrun K.w (fun _ _ => rfl)
            rw [ez] at hf
            exact run_append (P := P) h0 he h1 he1 h2 ty A0 A 0 0 0 c [] K.w hf (Nat.le_refl _) (by cases A0 <;> rfl)
          · simp only [RT]; exact ⟨A0, 0, rfl, Nat.le_refl _, fun q hq => by simp at hq, .inl ⟨by trivial, none, by simp [Ctx.void]⟩⟩
        · have hf := hrun K.w.drew (fun _ _ => rfl)
          rw [ez] at hf
          have ho0 : (Builtin.firstCells sz 0 (.slice A0 0 0)).run P K.w.drew = .ok ([] : List Value).toArray K.w.drew := by
            cases A0 with
            | none => rfl
            | some ad => simp only [Builtin.firstCells, Nat.zero_mul]; rfl
          obtain ⟨cap, rest, hc1, hc2, hc3⟩ := run_append_new (P := P) h0 he h1 he1 h2 h3 hb3 h4 hb2 ty A0 A 0 0 m c us [] K.w hf ho0 (by omega) hbound
          refine fin _ (K.draw.alloc S.n (.cells ([] ++ us ++ rest).toArray e)) (by rw [ey, ez]; exact hc3) ?_
          exact Step.newRow (l := []) (l' := l') (k := 0) hg hn e hc1 (by simp) hus hc2 (by simp) (fun i c hi => by simp at hi) hl'
      · simp at h
    · rename_i o k sz' cap es
      split at h
      · rename_i l g gen ho
        split at h
        · rename_i hcond
          obtain ⟨hc1, rfl, hgen, _⟩ := hcond
          simp only [app1] at h
          split at h
          · rename_i hbound
            simp only [Option.some.injEq, Prod.mk.injEq] at h
            obtain ⟨rfl, rfl⟩ := h
            have hshow : shown S (S.ev y) = some (k, l) := by
              rw [es]; simp only [shown, ho, rowAt, List.drop_zero, Option.some.injEq, Prod.mk.injEq, true_and]
              rw [← hc1, List.take_length]
            obtain ⟨A0', c0', ey', uo, huo, hruno, hlo⟩ := shown_sound (P := P) hg hobj hob hshow hc1 hy
            rw [es] at hy
            simp only [RT] at hy
            obtain ⟨A0, c0, ey, hkc, _, hplace⟩ := hy
            obtain ⟨rfl, rfl⟩ : A0' = A0 ∧ c0' = c0 := by rw [ey] at ey'; simp at ey'; exact ⟨ey'.1.symm, ey'.2.symm⟩
            by_cases hle : k + m ≤ c0'
            · have hf := hrun K.w (fun _ _ => rfl)
              rw [ez] at hf
              rcases hplace with ⟨rfl, s, hs⟩ | ⟨b, sh, hs, rfl, cs, ee, fr, hh, hroom⟩
              · obtain rfl : m = 0 := by omega
                obtain rfl : k = 0 := by omega
                have hl0 : l' = [] := List.length_eq_zero_iff.1 (by simpa using hb1)
                have hl1 : l = [] := List.length_eq_zero_iff.1 (by simpa using hc1)
                have hus0 : us = [] := List.length_eq_zero_iff.1 (by simpa using hus)
                subst hl0; subst hus0; subst hl1
                refine fin (.slice A0' 0 0) (K.void S.n) ?_ (Step.void hn ?_)
                · rw [ey, ez]
                  exact run_append (P := P) h0 he h1 he1 h2 ty A0' A 0 0 0 c [] K.w hf (Nat.le_refl _) (by cases A0' <;> rfl)
                · simp only [RT]; exact ⟨A0', 0, rfl, Nat.le_refl _, fun q hq => by simp at hq, .inl ⟨by trivial, none, by simp [Ctx.void]⟩⟩
              · have hro := hobj o _ _ (by rw [hob]; exact ho) hs
                simp only [RO] at hro
                rcases hro with ⟨hx, _⟩ | ⟨b', sh', cs', et, h6, hF, hbase, hh', hr⟩
                · simp at hx
                · obtain ⟨rfl, rfl⟩ := Prod.mk.inj (Option.some.inj h6)
                  rw [hh'] at hh
                  simp only [Option.some.injEq, Obj.cells.injEq] at hh
                  obtain ⟨rfl, rfl, rfl⟩ := hh
                  have hsz2 : (k + m) * sz' ≤ c0' * sz' := Nat.mul_le_mul_right _ hle
                  rw [Nat.add_mul] at hsz2
                  refine fin _ _ ?_ (Step.inPlace hg hn (by rw [hob]; exact ho) hgen hs hF hbase hh' hr hc1 hus hle (by simpa using hroom) hl')
                  rw [ey, ez]
                  refine run_append (P := P) h0 he h1 he1 h2 ty _ A k c0' m c us K.w hf hle ?_
                  simp only [Addr.add0, Nat.add_zero]
                  have := run_storeCells_at (P := P) b (sh + k * sz') et us 0 cs' K.w hh' (by simp at hroom; omega) (one_of hus hb1 hl')
                  rw [Nat.add_zero] at this
                  exact this
            · have hf := hrun K.w.drew (fun _ _ => rfl)
              rw [ez] at hf
              have hfo := hruno K.w.drew (fun _ _ => rfl)
              rw [ey] at hfo
              obtain ⟨cap, rest, hq1, hq2, hq3⟩ := run_append_new (P := P) h0 he h1 he1 h2 h3 hb3 h4 hb2 ty A0' A k c0' m c us uo K.w hf hfo hle hbound
              refine fin _ (K.draw.alloc S.n (.cells (uo ++ us ++ rest).toArray e)) (by rw [ey, ez]; exact hq3) ?_
              exact Step.newRow hg hn e hq1 huo hus hq2 hc1 hlo hl'
          · simp at h
        · simp at h
      · simp at h
    · simp at h
  · simp at h
end
end Go.Proofs.YtnbijiopcgfmfaaGreat.Tev
/- Calls. -/
namespace Go.Proofs.YtnbijiopcgfmfaaGreat.Tev
open Go Go.RowKit
set_option linter.unusedSectionVars false
set_option linter.unusedVariables false
set_option linter.unusedSimpArgs false

/-- What a call leaves: the value, and the rows that come with it. -/
def ResOK (F : Nat → Prop) (w w' : World) (x : T) (ls : List (List C)) (v : Value) : Prop :=
  ∃ (F' : Nat → Prop) (pl : Nat → Option (Nat × Nat)), (∀ b, F b → F' b) ∧ (∀ b, F' b → F b ∨ (w.heap.size ≤ b ∧ b < w'.heap.size)) ∧
    (∀ (n base : Nat) (σ : Nat → Option (Option (Nat × Nat))), (∀ k, k < ls.length → σ (n + k) = some (pl k)) → RT ⟨w', F', base, σ⟩ (lift n x) v) ∧
    (∀ k l, ls[k]? = some l → (pl k = none ∧ l = []) ∨ ∃ b sh cs e, pl k = some (b, sh) ∧ ¬ F' b ∧ w.heap.size ≤ b ∧ w'.heap[b]? = some (.cells cs e (0, 0)) ∧ RCs w' F' b sh l) ∧
    (∀ i j b sh sh', i < ls.length → j < ls.length → pl i = some (b, sh) → pl j = some (b, sh') → i = j)
/-- A function of the program, told by its trees. -/
def CallsR (P : Program) (f : FuncId) (ts : List T) (r : R) : Prop := (∃ fn, P.funcs[f]? = some fn ∧ (fn.name == "runtime.NumGoroutine") = false ∧ fn.body.isNone = false) ∧
  ∀ (w : World) (F : Nat → Prop) (us : List Value), (∀ b, F b → b < w.heap.size) → RTs ⟨w, F, w.heap.size, fun _ => none⟩ ts us →
    Calls P f us.toArray w fun e w' => ∃ v, e = .returned v ∧ Below w.heap.size w w' ∧ ResOK F w w' r.1 r.2 v
/-- A function without a body, told by its trees: it runs at once. -/
def RunsR (P : Program) (f : FuncId) (ts : List T) (r : R) : Prop := (∃ fn, P.funcs[f]? = some fn ∧ fn.body.isNone = true) ∧ r.2 = [] ∧
  ∀ (w : World) (F : Nat → Prop) (us : List Value), RTs ⟨w, F, w.heap.size, fun _ => none⟩ ts us →
    ∃ v, (callFunc f us.toArray).run P w = .ok (.value v) w ∧ ∀ (K : Ctx) (n : Nat), RT K (lift n r.1) v
/-- What an oracle tells of calls holds. -/
def CallOK (P : Program) (cl : FuncId → List T → Option R) : Prop := ∀ f ts r, cl f ts = some r → CallsR P f ts r ∨ RunsR P f ts r

section
variable {P : Program} {K : Ctx} {n : Nat} {ob : Nat → Option Ob} {a : Act}
/-- The context in which a callee begins. -/
def Ctx.callee (K : Ctx) : Ctx := ⟨K.w, K.F, K.w.heap.size, fun _ => none⟩
theorem snapC_sound (hg : Good K) (hobj : ∀ o x s, ob o = some x → K.σ o = some s → RO K s x) {S : St} (hob : ob = obj S.o) {x : T} {y : U} {u : Value} (h : snapC S x = some y) (r : RT K x u) : RU K.callee y u := by
  unfold snapC at h
  split at h
  · rename_i o off k sz cap
    simp only [RT] at r
    obtain ⟨A, c, e, hc, hex, h4⟩ := r
    split at h
    · rename_i l g gen ho
      obtain rfl := Option.some.inj h
      simp only [RU]
      refine ⟨A, c, e, hc, hex, ?_⟩
      rcases h4 with ⟨rfl, _⟩ | ⟨b, sh, hs, rfl, cs, ee, fr, hb, _⟩
      · exact .inl ⟨by omega, by rw [show k = 0 by omega, Nat.zero_mul, rowAt_zero]⟩
      · have hro := hobj o _ _ (by rw [hob]; exact ho) hs
        simp only [RO] at hro
        rcases hro with ⟨h, _⟩ | ⟨b', sh', cs', et, h5, _, _, _, h6⟩
        · simp at h
        · obtain ⟨rfl, rfl⟩ := Prod.mk.inj (Option.some.inj h5)
          exact .inr ⟨b, _, rfl, heap_lt hb, RCs_row h6 _ _⟩
    · rename_i l ho
      obtain rfl := Option.some.inj h
      simp only [RU, RC]
      refine ⟨A, c, e, hc, hex, ?_⟩
      rcases h4 with ⟨rfl, _⟩ | ⟨b, sh, hs, rfl, cs, ee, fr, hb, _⟩
      · exact .inl ⟨by omega, by rw [show k = 0 by omega, Nat.zero_mul, rowAt_zero]⟩
      · have hro := hobj o _ _ (by rw [hob]; exact ho) hs
        simp only [RO] at hro
        rcases hro with ⟨h, _⟩ | ⟨b', sh', h5, h7, h6⟩
        · simp at h
        · obtain ⟨rfl, rfl⟩ := Prod.mk.inj (Option.some.inj h5)
          exact .inr ⟨b, _, rfl, h7, RCs_row h6 _ _⟩
    · simp at h
  · obtain rfl := Option.some.inj h; simp only [RT] at r; simp only [RU]; exact r
  · obtain rfl := Option.some.inj h; simp only [RT] at r; simp only [RU]
    obtain ⟨A, c, e, h1, h2, h4⟩ := r
    exact ⟨A, c, e, h1, h2, h4.imp id fun ⟨b, o, e, hb, hr⟩ => ⟨b, o, e, Nat.lt_of_lt_of_le hb hg.base, hr⟩⟩
  · rename_i p l off
    obtain rfl := Option.some.inj h; simp only [RT] at r; simp only [RU]
    obtain ⟨b, s, e, h1, h2⟩ := r
    refine ⟨b, s, e, ?_, h2⟩
    cases p <;> simp only [Bool.false_eq_true, if_false, if_true] at h1 ⊢
    · exact Nat.lt_of_lt_of_le h1 hg.base
    · exact h1
  · rename_i o
    simp only [RT] at r
    obtain ⟨b, sh, hs, e⟩ := r
    split at h
    · rename_i es cl ho
      obtain rfl := Option.some.inj h
      have hro := hobj o _ _ (by rw [hob]; exact ho) hs
      simp only [RO] at hro
      obtain ⟨b', ents, h5, _, _, h6, h7, _⟩ := hro
      obtain ⟨rfl, rfl⟩ := Prod.mk.inj (Option.some.inj h5)
      simp only [RU]
      exact ⟨b, ents, cl, e, heap_lt h6, h6, h7⟩
    · simp at h
  · obtain rfl := Option.some.inj h
    simp only [RT] at r; simp only [RU]
    obtain ⟨b, ents, cl, h1, h2, h3⟩ := r
    exact ⟨b, ents, cl, h1, Nat.lt_of_lt_of_le h2 hg.base, h3⟩
  · obtain rfl := Option.some.inj h; simp only [RU]
  · simp at h
theorem RU_callee {x : U} {u : Value} (hg : Good K) (r : RU K x u) : RU K.callee x u := by
  cases x with
  | c x => simp only [RU] at r ⊢; exact r
  | junk => simp only [RU]
  | tmp cap k l =>
    simp only [RU] at r ⊢
    obtain ⟨A, c, e, h1, h2, h4⟩ := r
    exact ⟨A, c, e, h1, h2, h4.imp id fun ⟨b, o, e, hb, hr⟩ => ⟨b, o, e, Nat.lt_of_lt_of_le hb hg.base, hr⟩⟩
  | rp p l off =>
    simp only [RU] at r ⊢
    obtain ⟨b, s, e, h1, h2⟩ := r
    refine ⟨b, s, e, ?_, h2⟩
    cases p <;> simp only [Bool.false_eq_true, if_false, if_true] at h1 ⊢
    · exact Nat.lt_of_lt_of_le h1 hg.base
    · exact h1
  | ms es =>
    simp only [RU] at r ⊢
    obtain ⟨b, ents, cl, h1, h2, h3⟩ := r
    exact ⟨b, ents, cl, h1, Nat.lt_of_lt_of_le h2 hg.base, h3⟩
theorem RBs_callee (hg : Good K) (b : Nat) : ∀ (o : Nat) (l : List U), RBs K b o l → RBs K.callee b o l
  | _, [], _ => by simp only [RBs]
  | o, x :: l, h => by
    simp only [RBs] at h ⊢
    obtain ⟨⟨u, h1, h2⟩, h3⟩ := h
    exact ⟨⟨u, h1, RU_callee hg h2⟩, RBs_callee hg b (o + 1) l h3⟩
theorem RBs_mk {b : Nat} {cs : Array Value} {e : TypeId} {fr : Nat × Nat} (hb : K.w.heap[b]? = some (.cells cs e fr)) : ∀ (o : Nat) (l : List U),
    (∀ (i : Nat) (x : U), l[i]? = some x → ∃ u, cs[o + i]? = some u ∧ RU K x u) → RBs K b o l
  | _, [], _ => by simp only [RBs]
  | o, x :: l, h => by
    simp only [RBs]
    obtain ⟨u, h1, h2⟩ := h 0 x rfl
    exact ⟨⟨u, by simp [World.cell?, hb]; simpa using h1, h2⟩, RBs_mk hb (o + 1) l fun i y hy => by simpa [Nat.add_assoc, Nat.add_comm 1] using h (i + 1) y (by simpa using hy)⟩
theorem snapP_sound (hg : Good K) (hobj : ∀ o x s, ob o = some x → K.σ o = some s → RO K s x) {S : St} (hob : ob = obj S.o) {x y : T} {u : Value} (h : snapP S x = some y) (r : RT K x u) : RT K.callee y u := by
  unfold snapP at h
  split at h
  · rename_i o off
    simp only [RT] at r
    obtain ⟨b, sh, hs, e⟩ := r
    split at h
    · rename_i l ho
      obtain ⟨l', h1, rfl⟩ := Option.map_eq_some_iff.1 h
      have hro := hobj o _ _ (by rw [hob]; exact ho) hs
      simp only [RO] at hro
      obtain ⟨b', cs, et, h5, _, _, h6, h7⟩ := hro
      obtain ⟨rfl, rfl⟩ := Prod.mk.inj (Option.some.inj h5)
      simp only [RT]
      refine ⟨b, by simpa using e, heap_lt h6, RBs_mk (K := K.callee) h6 0 l' fun i x hx => ?_⟩
      obtain ⟨h8, h9⟩ := mapO_get h1
      have hi : i < l.length := by rw [← h8]; rcases Nat.lt_or_ge i l'.length with h' | h'; exact h'; simp [h'] at hx
      obtain ⟨x', hx', hf⟩ := h9 i l[i] (List.getElem?_eq_getElem hi)
      rw [hx] at hx'; obtain rfl := Option.some.inj hx'
      obtain ⟨u, hu, hr⟩ := RTs_get _ _ i _ h7 (List.getElem?_eq_getElem hi)
      exact ⟨u, by simpa using hu, snapC_sound hg hobj hob hf hr⟩
    · rename_i l g gen ho
      obtain rfl := Option.some.inj h
      have hro := hobj o _ _ (by rw [hob]; exact ho) hs
      simp only [RO] at hro
      rcases hro with ⟨h, _⟩ | ⟨b', sh', cs', et, h5, _, _, h8, h6⟩
      · simp at h
      · obtain ⟨rfl, rfl⟩ := Prod.mk.inj (Option.some.inj h5)
        simp only [RT]
        exact ⟨b, sh, e, by simp only [Bool.false_eq_true, if_false]; exact heap_lt h8, h6⟩
    · rename_i l ho
      obtain rfl := Option.some.inj h
      have hro := hobj o _ _ (by rw [hob]; exact ho) hs
      simp only [RO] at hro
      rcases hro with ⟨h, _⟩ | ⟨b', sh', h5, h7, h6⟩
      · simp at h
      · obtain ⟨rfl, rfl⟩ := Prod.mk.inj (Option.some.inj h5)
        simp only [RT]
        exact ⟨b, sh, e, by simp only [if_true]; exact h7, h6⟩
    · simp at h
  · obtain rfl := Option.some.inj h
    simp only [RT] at r ⊢
    obtain ⟨b, h1, h2, h3⟩ := r
    exact ⟨b, h1, Nat.lt_of_lt_of_le h2 hg.base, RBs_callee hg b 0 _ h3⟩
  · obtain ⟨y', h1, rfl⟩ := Option.map_eq_some_iff.1 h
    exact RU_toT.2 (snapC_sound hg hobj hob h1 r)
theorem mapO_RTs {K K' : Ctx} {f : T → Option T} (hf : ∀ x y u, f x = some y → RT K x u → RT K' y u) : ∀ {l : List T} {l' : List T} {us : List Value}, mapO f l = some l' → RTs K l us → RTs K' l' us
  | [], l', us, h, r => by simp [mapO] at h; subst h; simpa only [RTs] using r
  | x :: l, l', us, h, r => by
    simp only [mapO] at h
    obtain ⟨y, h1, h⟩ := Option.bind_eq_some_iff.1 h
    obtain ⟨z, h2, rfl⟩ := Option.map_eq_some_iff.1 h
    simp only [RTs] at r ⊢
    obtain ⟨u, vs, rfl, r1, r2⟩ := r
    exact ⟨u, vs, rfl, hf _ _ _ h1 r1, mapO_RTs hf h2 r2⟩
theorem mapO_RUs {K K' : Ctx} {f : T → Option U} (hf : ∀ x y u, f x = some y → RT K x u → RU K' y u) : ∀ {l : List T} {l' : List U} {us : List Value}, mapO f l = some l' → RTs K l us → RTs K' (l'.map U.toT) us
  | [], l', us, h, r => by simp [mapO] at h; subst h; simpa only [RTs, List.map_nil] using r
  | x :: l, l', us, h, r => by
    simp only [mapO] at h
    obtain ⟨y, h1, h⟩ := Option.bind_eq_some_iff.1 h
    obtain ⟨z, h2, rfl⟩ := Option.map_eq_some_iff.1 h
    simp only [RTs, List.map_cons] at r ⊢
    obtain ⟨u, vs, rfl, r1, r2⟩ := r
    exact ⟨u, vs, rfl, RU_toT.2 (hf _ _ _ h1 r1), mapO_RUs hf h2 r2⟩
theorem snap_sound (hg : Good K) (hobj : ∀ o x s, ob o = some x → K.σ o = some s → RO K s x) {S : St} (hob : ob = obj S.o) {x y : T} {u : Value} (h : snap S x = some y) (r : RT K x u) : RT K.callee y u := by
  unfold snap at h
  split at h
  · obtain ⟨l', h1, rfl⟩ := Option.map_eq_some_iff.1 h
    simp only [RT] at r ⊢
    obtain ⟨cs, e, hl⟩ := r
    exact ⟨cs, e, mapO_RUs (fun x y u h r => snapC_sound hg hobj hob h r) h1 hl⟩
  · obtain ⟨l', h1, rfl⟩ := Option.map_eq_some_iff.1 h
    simp only [RT] at r ⊢
    obtain ⟨cs, e, hl⟩ := r
    exact ⟨cs, e, mapO_RTs (fun x y u h r => snapP_sound hg hobj hob h r) h1 hl⟩
  · exact snapP_sound hg hobj hob h r
theorem arrs_get : ∀ (n : Nat) (ls : List (List C)) (i : Nat), (arrs n ls)[i]? = (ls[i]?).map fun l => Ob.arr l (n + i) 1
  | n, [], i => by simp [arrs]
  | n, l :: ls, 0 => by simp [arrs]
  | n, l :: ls, i + 1 => by simp only [arrs, List.getElem?_cons_succ]; rw [arrs_get (n + 1) ls i]; congr 1; funext l; congr 1; omega
theorem arrs_length (n : Nat) : ∀ (ls : List (List C)), (arrs n ls).length = ls.length := by
  intro ls; induction ls generalizing n with
  | nil => rfl
  | cons l ls ih => simp [arrs, ih]
theorem Step.call (hg : Good K) {x : T} {ls : List (List C)} {v : Value} {w' : World} (hn : ∀ i, i < ls.length → K.σ (n + i) = none) (hb : Below K.w.heap.size K.w w') (hr : ResOK K.F K.w w' x ls v) :
    ∃ K', K'.w = w' ∧ Step K n ob (lift n x) (arrs n ls) [] K' v := by
  obtain ⟨F', pl, h1, h2, h3, h4, h5⟩ := hr
  let σ' : Nat → Option (Option (Nat × Nat)) := fun o => if n ≤ o ∧ o < n + ls.length then some (pl (o - n)) else K.σ o
  have hσ : ∀ k, k < ls.length → σ' (n + k) = some (pl k) := fun k hk => by
    show (if n ≤ n + k ∧ n + k < n + ls.length then some (pl (n + k - n)) else _) = _
    rw [if_pos (by omega), show n + k - n = k by omega]
  refine ⟨⟨w', F', K.base, σ'⟩, rfl, ?_⟩
  exact {
    ext := {
      base := rfl
      F := h1
      σ := fun o s h => by
        show (if n ≤ o ∧ o < n + ls.length then some (pl (o - n)) else _) = _
        split
        · rename_i hc
          have := hn (o - n) (by omega)
          rw [show n + (o - n) = o by omega, h] at this; simp at this
        · exact h
      kept := fun b h => hb.block b (h.elim (hg.F b) fun h => Nat.lt_of_lt_of_le h hg.base)
      sizes := fun b cs e fr h => ⟨cs, e, fr, (hb.block b (heap_lt h)).trans h, rfl⟩ }
    below := hb.mono hg.base
    val := h3 n K.base σ' hσ
    new := fun i y h => by
      rw [arrs_get] at h
      obtain ⟨l, hl, rfl⟩ := Option.map_eq_some_iff.1 h
      have hi : i < ls.length := by rcases Nat.lt_or_ge i ls.length with h' | h'; exact h'; simp [h'] at hl
      refine ⟨pl i, hσ i hi, ?_⟩
      simp only [RO]
      refine (h4 i l hl).imp id ?_
      rintro ⟨b, sh, cs, e, q1, q2, q3, q4, q5⟩
      exact ⟨b, sh, cs, e, q1, q2, Nat.le_trans hg.base q3, q4, q5⟩
    dom := fun o s h => by
      have h' : (if n ≤ o ∧ o < n + ls.length then some (pl (o - n)) else K.σ o) = some s := h
      split at h'
      · exact .inr ⟨o - n, by rw [arrs_length]; omega, by omega⟩
      · exact .inl h'
    F := fun b h => (h2 b h).imp id .inl
    frz := fun o l g e b sh _ h => by simp at h
    place := fun i b sh hi h => by
      rw [arrs_length] at hi
      have h' : σ' (n + i) = _ := h
      rw [hσ i hi] at h'
      have h' := Option.some.inj h'
      obtain ⟨l, hl⟩ : ∃ l, ls[i]? = some l := ⟨_, List.getElem?_eq_getElem hi⟩
      rcases h4 i l hl with ⟨q, _⟩ | ⟨b', sh', cs, e, q1, q2, q3, _⟩
      · rw [q] at h'; simp at h'
      · rw [q1] at h'
        obtain ⟨rfl, rfl⟩ := Prod.mk.inj (Option.some.inj h')
        exact .inl ⟨q3, q2⟩
    apart := fun i j b sh sh' hi hj e1 e2 => by
      rw [arrs_length] at hi hj
      have e1' : σ' (n + i) = _ := e1
      have e2' : σ' (n + j) = _ := e2
      rw [hσ i hi] at e1'; rw [hσ j hj] at e2'
      exact h5 i j b sh sh' hi hj (Option.some.inj e1') (Option.some.inj e2')
    kept := .inl fun b hb' => hb.block b hb' }
theorem call_sound {cl : FuncId → List T → Option R} (hcl : CallOK P cl) (hg : Good K) (hobj : ∀ o x s, ob o = some x → K.σ o = some s → RO K s x) (y : Operand) (args : Array Operand) (ats : Array TypeId) (d : Option Nat) (ty : TypeId) (pos : String) (af : Array Edge) (gg : Option (Nat × Bool)) {S : St} (hob : ob = obj S.o) (hSn : S.n = n) {x : T} {nw : List Ob}
    (hn : ∀ i, i < nw.length → K.σ (n + i) = none) (hy : RT K (S.ev y) (a.eval y)) (hz : ∀ z ∈ args, RT K (S.ev z) (a.eval z)) (h : callT cl S (S.ev y) (args.toList.map S.ev) = some (x, nw)) :
    Does P K n ob a ⟨d, .call ⟨.value y, args, ats⟩, ty, pos, af, gg⟩ x nw [] := by
  subst hSn
  unfold callT at h
  split at h
  · rename_i f caps e
    obtain ⟨as, h1, h⟩ := Option.bind_eq_some_iff.1 h
    obtain ⟨cs, h2, h⟩ := Option.bind_eq_some_iff.1 h
    obtain ⟨⟨rx, ls⟩, h3, h⟩ := Option.map_eq_some_iff.1 h
    simp only [Prod.mk.injEq] at h
    obtain ⟨rfl, rfl⟩ := h
    rw [arrs_length] at hn
    rw [e] at hy
    simp only [RT] at hy
    obtain ⟨us, e1, hl⟩ := hy
    have hargs : ∀ l : List Operand, (∀ z ∈ l, RT K (S.ev z) (a.eval z)) → RTs K (l.map S.ev) (l.map a.eval) := by
      intro l
      induction l with
      | nil => intro _; simp only [List.map_nil, RTs]
      | cons y l ih =>
        intro hl
        simp only [List.map_cons, RTs]
        exact ⟨_, _, rfl, hl y (by simp), ih fun z hz => hl z (by simp [hz])⟩
    have r1 := mapO_RTs (K' := K.callee) (fun x y u h r => snap_sound hg hobj hob h r) h1 (hargs args.toList fun z hz' => hz z (by simpa using hz'))
    have r2 := mapO_RTs (K' := K.callee) (fun x y u h r => snapP_sound hg hobj hob h r) h2 hl
    rcases hcl f _ _ h3 with ⟨⟨fn, hf1, hf2, hf3⟩, hcalls⟩ | ⟨_, hls, hruns⟩
    rotate_left
    · obtain ⟨v, hv, hx⟩ := hruns K.w K.F _ (RTs_append r1 r2)
      have hls' : ls = [] := hls
      subst hls'
      have hx' := hx K S.n
      refine .inl ⟨v, K, ?_, ?_⟩
      · rw [← hv]
        simp only [execOp, resolve, e1, Deferred.ofValue, bind, Pure.pure, Sem.bind, invoke, Sem.run]
        congr 2
        apply Array.toList_inj.1
        simp
      · exact Step.same hx'
    have hc := hcalls K.w K.F _ hg.F (RTs_append r1 r2)
    refine .inr ⟨f, (args.toList.map a.eval ++ us).toArray, ?_, hc.mono ?_⟩
    · simp only [execOp, resolve, e1, Deferred.ofValue, bind, Pure.pure, Sem.bind, invoke, callFunc, program, Sem.run, hf1, hf2, hf3, Bool.false_eq_true, if_false]
      congr 2
      apply Array.toList_inj.1
      simp
    · rintro ev w' ⟨v, rfl, hb, hr⟩
      obtain ⟨K', hw, st⟩ := Step.call (ob := ob) hg hn hb hr
      exact ⟨v, K', rfl, hw, st⟩
  · simp at h
end
end Go.Proofs.YtnbijiopcgfmfaaGreat.Tev
/- Maps. -/
namespace Go.Proofs.YtnbijiopcgfmfaaGreat.Tev
open Go Go.RowKit
set_option linter.unusedSectionVars false
set_option linter.unusedVariables false
set_option linter.unusedSimpArgs false
section
variable {P : Program} {K : Ctx} {n : Nat} {ob : Nat → Option Ob} {a : Act}
theorem zero1_run {t : TypeId} {x : T} (h : zero1 P t = some x) : ∃ v, (∀ w, (zeroValue t).run P w = .ok v w) ∧ x = cellT v := by
  unfold zero1 at h
  obtain ⟨i, h1, h2⟩ := Option.bind_eq_some_iff.1 h
  obtain ⟨v, h3, h4⟩ := Option.map_eq_some_iff.1 h2
  refine ⟨v, fun w => ?_, h4.symm⟩
  show (Sem.bind (typeInfo t) _).run P w = _
  rw [Sem.run_bind', info_run h1]
  simp [Result.andThen, h3, Pure.pure, Sem.run]
theorem isIntMap_run {t e : TypeId} (h : isIntMap P t = some e) : ∃ k kk, P.underlying t = some (.map k e) ∧ P.underlying k = some (.int kk) := by
  unfold isIntMap at h
  split at h
  · rename_i k e' hu
    split at h
    · rename_i kk hk
      obtain rfl := Option.some.inj h
      exact ⟨k, kk, hu, hk⟩
    · simp at h
  · simp at h
theorem checkKey_run {k : TypeId} {kk : IntKind} (hk : P.underlying k = some (.int kk)) (q : Bool) (m : Nat) (v : Value) (w : World) : (Instr.checkKey q (m + 1) k v).run P w = .ok () w := by
  simp only [Instr.checkKey, bind, Sem.run_bind', under_run hk, Result.andThen, Pure.pure, Sem.run]
theorem get_map {w : World} {b : Nat} {ents : Array MapEntry} {cl : Nat} (h : w.heap[b]? = some (.map ents cl)) : (getObj b).run P w = .ok (.map ents cl) w := by
  simp [getObj, Sem.run, h]
theorem findKey_run {k : TypeId} {kk : IntKind} {kv : Value} {ents : List MapEntry} {q : Option (Nat × Value)} (hk : P.underlying k = some (.int kk)) (hq : Instr.findNow (.int kk) kv ents 0 = some q) (w : World) : (Instr.findKey k kv ents).run P w = .ok q w := by
  simp only [Instr.findKey, bind, Sem.run_bind', under_run hk, Result.andThen, hq, Pure.pure, Sem.run]
theorem keyIx_run {kk : IntKind} {kv : Value} : ∀ {es : List (Value × C × Nat)} {ents : List MapEntry} {r : Option Nat} {i : Nat} {w : World} {F : Nat → Prop}, REs w F es ents → keyIx kv es i = some r →
    ∃ q, Instr.findNow (.int kk) kv ents i = some q ∧ (q.map (·.1) = r) ∧ (∀ j, r = some j → i ≤ j ∧ ∃ e x, ents[j - i]? = some e ∧ es[j - i]? = some x ∧ q = some (j, e.val) ∧ RC w F x.2.1 e.val ∧ e.key = x.1 ∧ kv = x.1 ∧ e.born = x.2.2)
  | [], ents, r, i, w, F, hr, h => by
    simp [keyIx] at h; subst h
    simp only [REs] at hr; subst hr
    exact ⟨none, rfl, rfl, fun j hj => by simp at hj⟩
  | x :: es, ents, r, i, w, F, hr, h => by
    simp only [REs] at hr
    obtain ⟨e, rest, rfl, h1, h2, h3, h4⟩ := hr
    simp only [keyIx] at h
    split at h
    · rename_i a x1 b y1 e1
      split at h
      · rename_i hab
        subst hab
        split at h
        · rename_i hxy
          subst hxy
          obtain rfl := Option.some.inj h
          refine ⟨some (i, e.val), ?_, rfl, fun j hj => ?_⟩
          · simp [Instr.findNow, h1, e1, Instr.sameNow]
          · obtain rfl := Option.some.inj hj
            exact ⟨Nat.le_refl _, e, x, by simp, by simp, rfl, h2, h1, by rw [e1], h3⟩
        · rename_i hxy
          obtain ⟨q, h5, h6, h7⟩ := keyIx_run (kk := kk) h4 h
          refine ⟨q, ?_, h6, fun j hj => ?_⟩
          · simp only [Instr.findNow, h1, e1, Instr.sameNow, if_true]
            rw [show (x1 == y1) = false by simpa using hxy]
            exact h5
          · obtain ⟨h8, e', x', h9, h10, h11⟩ := h7 j hj
            refine ⟨by omega, e', x', ?_, ?_, h11⟩
            · rw [show j - i = (j - (i + 1)) + 1 by omega]; simpa using h9
            · rw [show j - i = (j - (i + 1)) + 1 by omega]; simpa using h10
      · simp at h
    · simp at h
theorem lookup_run {t k e : TypeId} {kk : IntKind} (hu1 : P.underlying t = some (.map k e)) (hu2 : P.underlying k = some (.int kk)) {w : World} {b : Nat} {ents : Array MapEntry} {cl : Nat} (hb : w.heap[b]? = some (.map ents cl)) {kv : Value} {q : Option (Nat × Value)}
    (hq : Instr.findNow (.int kk) kv ents.toList 0 = some q) {v0 : Value} (hz : (zeroValue e).run P w = .ok v0 w) (ok : Bool) :
    (Instr.lookup t (.map (some b)) kv ok).run P w = .ok (if ok then .tuple #[(q.map (·.2)).getD v0, .bool q.isSome] else (q.map (·.2)).getD v0) w := by
  have hc := checkKey_run (P := P) hu2 ents.isEmpty 9999 kv w
  simp only [Instr.lookup, bind, Sem.run_bind', under_run hu1, Result.andThen, get_map hb, Pure.pure, Sem.run, hc, findKey_run hu2 hq]
  cases q with
  | none => simp only [Sem.run_bind', hz, Result.andThen, Sem.run]; cases ok <;> rfl
  | some p => obtain ⟨i, v⟩ := p; simp only [Sem.run]; cases ok <;> rfl
theorem mapOf_sound (hobj : ∀ o x s, ob o = some x → K.σ o = some s → RO K s x) {S : St} (hob : ob = obj S.o) {m : T} {u : Value} {es : List (Value × C × Nat)} (r : RT K m u) (h : mapOf S m = some es) :
    ∃ b ents cl, u = .map (some b) ∧ K.w.heap[b]? = some (.map ents cl) ∧ REs K.w K.F es ents.toList := by
  unfold mapOf at h
  split at h
  · rename_i p
    simp only [RT] at r
    obtain ⟨b, sh, hs, hy⟩ := r
    split at h
    · rename_i es' cl ho
      obtain rfl := Option.some.inj h
      have hro := hobj p _ _ (by rw [hob]; exact ho) hs
      simp only [RO] at hro
      obtain ⟨b', ents, h3, _, _, h4, h5, _⟩ := hro
      obtain ⟨rfl, rfl⟩ := Prod.mk.inj (Option.some.inj h3)
      exact ⟨_, _, _, hy, h4, h5⟩
    · simp at h
  · obtain rfl := Option.some.inj h
    simp only [RT] at r
    obtain ⟨b, ents, cl, h1, _, h2, h3⟩ := r
    exact ⟨_, _, _, h1, h2, h3⟩
  · simp at h
theorem lookup_sound (hobj : ∀ o x s, ob o = some x → K.σ o = some s → RO K s x) (t : TypeId) (y z : Operand) (ok : Bool) (d : Option Nat) (ty : TypeId) (pos : String) (af : Array Edge) (g : Option (Nat × Bool)) {S : St} (hob : ob = obj S.o) {x : T}
    (hy : RT K (S.ev y) (a.eval y)) (hz : RT K (S.ev z) (a.eval z)) (h : lookupT P S t (S.ev y) (S.ev z) ok = some x) : Does P K n ob a ⟨d, .lookup t y z ok, ty, pos, af, g⟩ x [] [] := by
  unfold lookupT at h
  obtain ⟨e, h1, h⟩ := Option.bind_eq_some_iff.1 h
  obtain ⟨zz, h2, h⟩ := Option.bind_eq_some_iff.1 h
  obtain ⟨k, kk, hu1, hu2⟩ := isIntMap_run h1
  obtain ⟨v0, hv1, hv2⟩ := zero1_run h2
  split at h
  · rename_i kv zc e2
    rw [e2] at hz
    have hz := RT_v hz
    obtain ⟨es, ho, h⟩ := Option.bind_eq_some_iff.1 h
    obtain ⟨b, ents, cl, hy, h4, h5⟩ := mapOf_sound hobj hob hy ho
    · obtain ⟨r, h6, rfl⟩ := Option.map_eq_some_iff.1 h
      obtain ⟨q, h7, h8, h9⟩ := keyIx_run (kk := kk) h5 h6
      have hrv0 : RC K.w K.F zc v0 := by
        have := RT_cellT K v0
        rw [← hv2] at this
        simpa only [RT] using this
      have hrun := lookup_run (P := P) hu1 hu2 h4 h7 (hv1 K.w) ok
      have hval : RC K.w K.F (((r.bind (es[·]?)).map (·.2.1)).getD zc) ((q.map (·.2)).getD v0) := by
        cases hr : r with
        | none =>
          rw [hr] at h8
          cases q with
          | none => exact hrv0
          | some p => simp at h8
        | some j =>
          obtain ⟨_, e', x', h10, h11, h12, h13, _⟩ := h9 j hr
          simp only [Nat.sub_zero] at h11
          rw [h12]
          simp only [Option.bind_some, h11, Option.map_some, Option.getD_some]
          exact h13
      have hsome : q.isSome = r.isSome := by rw [← h8]; cases q <;> rfl
      refine .pure (val := if ok then .tuple #[(q.map (·.2)).getD v0, .bool q.isSome] else (q.map (·.2)).getD v0) ?_ ?_
      · simp only [execOp]
        rw [hy, hz, run_value, hrun]; rfl
      · cases ok with
        | false => simp only [cond_false, Bool.false_eq_true, if_false, RT]; exact hval
        | true =>
          simp only [cond_true, if_true, RT]
          refine ⟨[_, _], rfl, ?_⟩
          simp only [RTs]
          exact ⟨_, _, rfl, by simp only [RT]; exact hval, _, _, rfl, by simp [RT, RC, flat, hsome], rfl⟩
  · simp at h
end
end Go.Proofs.YtnbijiopcgfmfaaGreat.Tev
/- All operations that write nothing old. -/
namespace Go.Proofs.YtnbijiopcgfmfaaGreat.Tev
open Go Go.RowKit
set_option linter.unusedSectionVars false
set_option linter.unusedVariables false
set_option linter.unusedSimpArgs false
section
variable {P : Program} {K : Ctx} {a : Act}
theorem w0_inv {r : Option T} {x : T} {nw : List Ob} (h : w0 r = some (x, nw)) : r = some x ∧ nw = [] := by
  cases r with
  | none => simp [w0] at h
  | some y => simp [w0] at h; exact ⟨by rw [h.1], h.2⟩
theorem map1 {l : List Operand} {S : St} {x : T} (h : l.map S.ev = [x]) : ∃ y, l = [y] ∧ S.ev y = x := by
  match l, h with
  | [y], h => exact ⟨y, rfl, by simpa using h⟩
theorem map2 {l : List Operand} {S : St} {x y : T} (h : l.map S.ev = [x, y]) : ∃ p q, l = [p, q] ∧ S.ev p = x ∧ S.ev q = y := by
  match l, h with
  | [p, q], h => exact ⟨p, q, rfl, by simpa using h⟩
theorem lenT_sound {S : St} (hobj : ∀ o x s, obj S.o o = some x → K.σ o = some s → RO K s x) {t : TypeId} {ats : Array TypeId} (ht : ats[0]? = some t) (ty : TypeId) {x z : T} {u : Value} (r : RT K x u) (h : lenT S (P.underlying t) x = some z) :
    ∃ v, RT K z v ∧ (Builtin.len_ ats ty #[u]).run P K.w = .ok v K.w := by
  unfold lenT at h
  split at h
  · rename_i s hu
    obtain rfl := Option.some.inj h
    refine ⟨.int .i64 s.size, by simp [RT, RC, flat], ?_⟩
    rw [RT_v r]
    simp only [Builtin.len_, ht, List.getElem?_toArray, List.getElem?_cons_zero, bind, Sem.run_bind', under_run hu, Result.andThen, Pure.pure, Sem.run, goInt]
  · rename_i e hu
    obtain rfl := Option.some.inj h
    simp only [RT, RC] at r
    obtain ⟨A, c, rfl, _⟩ := r
    refine ⟨.int .i64 _, by simp only [RT, RC]; exact ⟨rfl, rfl⟩, ?_⟩
    simp only [Builtin.len_, ht, List.getElem?_toArray, List.getElem?_cons_zero, bind, Sem.run_bind', under_run hu, Result.andThen, Pure.pure, Sem.run, goInt]
  · rename_i e hu
    obtain rfl := Option.some.inj h
    simp only [RT] at r
    obtain ⟨A, c, rfl, _⟩ := r
    refine ⟨.int .i64 _, by simp only [RT, RC]; exact ⟨rfl, rfl⟩, ?_⟩
    simp only [Builtin.len_, ht, List.getElem?_toArray, List.getElem?_cons_zero, bind, Sem.run_bind', under_run hu, Result.andThen, Pure.pure, Sem.run, goInt]
  · rename_i e hu
    obtain rfl := Option.some.inj h
    simp only [RT] at r
    obtain ⟨A, c, rfl, _⟩ := r
    refine ⟨.int .i64 _, by simp only [RT, RC]; exact ⟨rfl, rfl⟩, ?_⟩
    simp only [Builtin.len_, ht, List.getElem?_toArray, List.getElem?_cons_zero, bind, Sem.run_bind', under_run hu, Result.andThen, Pure.pure, Sem.run, goInt]
  · rename_i k e o hu
    split at h
    · rename_i es cl ho
      obtain rfl := Option.some.inj h
      simp only [RT] at r
      obtain ⟨b, sh, hs, rfl⟩ := r
      have hro := hobj o _ _ ho hs
      simp only [RO] at hro
      obtain ⟨b', ents, h1, _, _, h2, h3, _⟩ := hro
      obtain ⟨rfl, rfl⟩ := Prod.mk.inj (Option.some.inj h1)
      have hlen : ∀ (es : List (Value × C × Nat)) (l : List MapEntry), REs K.w K.F es l → l.length = es.length := by
        intro es
        induction es with
        | nil => intro l h; simp only [REs] at h; subst h; rfl
        | cons x es ih => intro l h; simp only [REs] at h; obtain ⟨e, r, rfl, _, _, _, h⟩ := h; simp [ih r h]
      have hl := hlen _ _ h3
      refine ⟨.int .i64 es.length, by simp [RT, RC, flat], ?_⟩
      have hget : (getObj b).run P K.w = .ok (.map ents cl) K.w := by simp [getObj, Sem.run, h2]
      simp only [Builtin.len_, ht, List.getElem?_toArray, List.getElem?_cons_zero, bind, Sem.run_bind', under_run hu, hget, Result.andThen, Pure.pure, Sem.run, goInt]
      rw [← hl]; simp
    · simp at h
  · rename_i es hu
    obtain rfl := Option.some.inj h
    simp only [RT] at r
    obtain ⟨b, ents, cl, rfl, _, h2, h3⟩ := r
    · skip
      have hlen : ∀ (es : List (Value × C × Nat)) (l : List MapEntry), REs K.w K.F es l → l.length = es.length := by
        intro es
        induction es with
        | nil => intro l h; simp only [REs] at h; subst h; rfl
        | cons x es ih => intro l h; simp only [REs] at h; obtain ⟨e, r, rfl, _, _, _, h⟩ := h; simp [ih r h]
      have hl := hlen _ _ h3
      refine ⟨.int .i64 es.length, by simp [RT, RC, flat], ?_⟩
      have hget : (getObj b).run P K.w = .ok (.map ents cl) K.w := by simp [getObj, Sem.run, h2]
      simp only [Builtin.len_, ht, List.getElem?_toArray, List.getElem?_cons_zero, bind, Sem.run_bind', under_run hu, hget, Result.andThen, Pure.pure, Sem.run, goInt]
      rw [← hl]; simp
  · simp at h
theorem builtin_sound (hg : Good K) {S : St} (hobj : ∀ o x s, obj S.o o = some x → K.σ o = some s → RO K s x) (b : Builtin) (args : Array Operand) (ats : Array TypeId) (d : Option Nat) (ty : TypeId) (pos : String) (af : Array Edge) (gg : Option (Nat × Bool)) {x : T} {nw : List Ob}
    (hn : ∀ i, i < nw.length → K.σ (S.n + i) = none) (hz : ∀ z ∈ args, RT K (S.ev z) (a.eval z)) (h : builtinT P S b ats (args.toList.map S.ev) = some (x, nw)) :
    Does P K S.n (obj S.o) a ⟨d, .call ⟨.builtin b, args, ats⟩, ty, pos, af, gg⟩ x nw [] := by
  have fin : ∀ (v : Value), nw = [] → (builtin b ats ty (args.map fun | .const _ => true | _ => false) (args.map a.eval)).run P K.w = .ok (.value v) K.w → RT K x v → Does P K S.n (obj S.o) a ⟨d, .call ⟨.builtin b, args, ats⟩, ty, pos, af, gg⟩ x nw [] := by
    intro v e hr r
    subst e
    exact .pure (val := v) (by exact hr) r
  have key : ∀ l : List Operand, args = l.toArray → Does P K S.n (obj S.o) a ⟨d, .call ⟨.builtin b, args, ats⟩, ty, pos, af, gg⟩ x nw [] := by
    intro l hl
    have hmap : args.map a.eval = (l.map a.eval).toArray := by rw [hl]; simp
    have htl : args.toList = l := by rw [hl]
    have hz' : ∀ z ∈ l, RT K (S.ev z) (a.eval z) := fun z hm => hz z (by rw [hl]; simpa using hm)
    rw [htl] at h
    rw [hmap] at fin
    unfold builtinT at h
    split at h
    · rename_i y e
      obtain ⟨p, rfl, rfl⟩ := map1 e
      obtain ⟨t, ht, h1⟩ := Option.bind_eq_some_iff.1 h
      obtain ⟨h2, e2⟩ := w0_inv h1
      subst e2
      obtain ⟨v, r, hr⟩ := lenT_sound hobj ht ty (hz' p (by simp)) h2
      refine fin v rfl ?_ r
      simp only [builtin, List.map_cons, List.map_nil]
      rw [run_value, hr]; rfl
    · rename_i y z e
      obtain ⟨p, q, rfl, rfl, rfl⟩ := map2 e
      replace h := w0_inv h; obtain ⟨h, rfl⟩ := h
      unfold minT at h
      split at h
      · rename_i k i k' j e1 e2
        obtain rfl := Option.some.inj h
        have h1 := hz' p (by simp); have h2 := hz' q (by simp)
        rw [e1] at h1; rw [e2] at h2
        refine fin (.int k (if j < i then j else i)) rfl ?_ (by simp [RT, RC, flat])
        simp only [builtin, List.map_cons, List.map_nil, RT_v h1, RT_v h2]
        rw [run_value]
        simp [Builtin.min_, Builtin.min2, List.foldlM, bind, Pure.pure, Sem.bind, Sem.run, Result.andThen]
      · simp at h
    · rename_i y z e
      obtain ⟨p, q, rfl, rfl, rfl⟩ := map2 e
      replace h := w0_inv h; obtain ⟨h, rfl⟩ := h
      unfold maxT at h
      split at h
      · rename_i k i k' j e1 e2
        obtain rfl := Option.some.inj h
        have h1 := hz' p (by simp); have h2 := hz' q (by simp)
        rw [e1] at h1; rw [e2] at h2
        refine fin (.int k (if j > i then j else i)) rfl ?_ (by simp [RT, RC, flat])
        simp only [builtin, List.map_cons, List.map_nil, RT_v h1, RT_v h2]
        rw [run_value]
        simp [Builtin.max_, Builtin.max2, List.foldlM, bind, Pure.pure, Sem.bind, Sem.run, Result.andThen]
      · simp at h
    · rename_i y z e
      obtain ⟨p, q, rfl, rfl, rfl⟩ := map2 e
      obtain ⟨e0, he, h⟩ := Option.bind_eq_some_iff.1 h
      obtain ⟨e1, he1, h⟩ := Option.bind_eq_some_iff.1 h
      obtain ⟨t0, h0, he⟩ := Option.bind_eq_some_iff.1 he
      obtain ⟨t1, h1, he1⟩ := Option.bind_eq_some_iff.1 he1
      have : ∃ y, nw = [y] := by
        have app : ∀ (n k m by_ sz : Nat) (l x' : List C) (g gen : Nat), app1 n k m by_ sz l x' g gen = some (x, nw) → ∃ y, nw = [y] := by
          intro n k m by_ sz l x' g gen h
          unfold app1 at h
          split at h
          · simp only [Option.some.injEq, Prod.mk.injEq] at h; exact ⟨_, h.2.symm⟩
          · simp at h
        unfold appendT at h
        obtain ⟨_, _, h⟩ := Option.bind_eq_some_iff.1 h
        obtain ⟨_, _, h⟩ := Option.bind_eq_some_iff.1 h
        obtain ⟨_, _, h⟩ := Option.bind_eq_some_iff.1 h
        obtain ⟨_, _, h⟩ := Option.bind_eq_some_iff.1 h
        split at h
        · split at h
          · exact app _ _ _ _ _ _ _ _ _ h
          · split at h
            · split at h
              · exact app _ _ _ _ _ _ _ _ _ h
              · simp at h
            · simp at h
          · simp at h
        · simp at h
      obtain ⟨y', hy'⟩ := this
      have hn0 : K.σ S.n = none := by simpa using hn 0 (by simp [hy'])
      rw [hl]
      exact append_sound hg hobj hn0 h0 he h1 he1 p q d ty pos af gg rfl rfl (hz' p (by simp)) (hz' q (by simp)) h
    · simp at h
  exact key args.toList (by simp)
/-- Every operation but a store. -/
theorem opN_sound {E : Env} {cl : FuncId → List T → Option R} (hcl : CallOK E.P cl) (hg : Good K) {S : St} (hobj : ∀ o x s, obj S.o o = some x → K.σ o = some s → RO K s x) (o : Oper) {x : T} {nw : List Ob} {fz : List Nat}
    (hn : ∀ i, i < nw.length → K.σ (S.n + i) = none) (hr : ∀ z ∈ o.op.operands, RT K (S.ev z) (a.eval z)) (h : opN E cl S o = some (x, nw, fz)) : Does E.P K S.n (obj S.o) a o x nw fz := by
  obtain ⟨d, op, ty, pos, af, gg⟩ := o
  have hn0 : ∀ y, nw = [y] → K.σ S.n = none := fun y e => by simpa using hn 0 (by simp [e])
  cases op <;> simp only [opN] at h <;> simp only [Op.operands] at hr
  case move y =>
    simp only [Option.some.injEq, Prod.mk.injEq] at h; obtain ⟨rfl, rfl, rfl⟩ := h
    exact .pure (val := a.eval y) rfl (hr y (by simp))
  case assign y =>
    simp only [Option.some.injEq, Prod.mk.injEq] at h; obtain ⟨rfl, rfl, rfl⟩ := h
    exact .pure (val := a.eval y) rfl (hr y (by simp))
  case pick c y z =>
    replace h := v0_inv h; obtain ⟨h, rfl, rfl⟩ := h
    exact pick_sound c y z d ty pos af gg (hr c (by simp)) (hr y (by simp)) (hr z (by simp)) h
  case alloc t =>
    replace h := v1_inv h; obtain ⟨h, rfl⟩ := h
    have : ∃ y, nw = [y] := by unfold allocT at h; obtain ⟨z, _, h2⟩ := Option.map_eq_some_iff.1 h; exact ⟨_, (Prod.mk.inj h2).2.symm⟩
    obtain ⟨y, hy⟩ := this
    exact alloc_sound hg (hn0 y hy) t d ty pos af gg h
  case box t y =>
    replace h := v1_inv h; obtain ⟨h, rfl⟩ := h
    have : ∃ y, nw = [y] := by unfold allocT at h; obtain ⟨z, _, h2⟩ := Option.map_eq_some_iff.1 h; exact ⟨_, (Prod.mk.inj h2).2.symm⟩
    obtain ⟨y', hy'⟩ := this
    exact box_sound hg (hn0 y' hy') t y d ty pos af gg (hr y (by simp)) h
  case build t ps =>
    replace h := v0_inv h; obtain ⟨h, rfl, rfl⟩ := h
    exact build_sound t ps d ty pos af gg (fun p hp => hr p.2 (by simp; exact ⟨p.1, by simpa using hp⟩)) h
  case buildSlice t k ps =>
    have : ∃ y, nw = [y] := by
      unfold buildSliceT at h
      obtain ⟨_, _, h⟩ := Option.bind_eq_some_iff.1 h
      obtain ⟨_, _, h⟩ := Option.bind_eq_some_iff.1 h
      obtain ⟨_, _, h⟩ := Option.bind_eq_some_iff.1 h
      split at h
      · obtain ⟨_, _, h⟩ := Option.bind_eq_some_iff.1 h
        obtain ⟨_, _, h2⟩ := Option.map_eq_some_iff.1 h
        simp only [Prod.mk.injEq] at h2
        exact ⟨_, h2.2.1.symm⟩
      · simp at h
    obtain ⟨y', hy'⟩ := this
    exact buildSlice_sound hg hobj (hn0 y' hy') t k ps d ty pos af gg rfl rfl (fun p hp => hr p.2 (by simp; exact ⟨p.1, by simpa using hp⟩)) h
  case load t y =>
    replace h := v0_inv h; obtain ⟨h, rfl, rfl⟩ := h
    exact load_sound hobj t y d ty pos af gg rfl (hr y (by simp)) h
  case nilCheck y =>
    replace h := v0_inv h; obtain ⟨h, rfl, rfl⟩ := h
    exact nil_sound y d ty pos af gg (hr y (by simp)) h
  case binOp op xt y z yt =>
    replace h := v0_inv h; obtain ⟨h, rfl, rfl⟩ := h
    exact bin2_sound op xt y z yt d ty pos af gg (hr y (by simp)) (hr z (by simp)) h
  case unOp op xt y =>
    replace h := v0_inv h; obtain ⟨h, rfl, rfl⟩ := h
    exact un1_sound op xt y d ty pos af gg (hr y (by simp)) h
  case convert s t y =>
    replace h := v0_inv h; obtain ⟨h, rfl, rfl⟩ := h
    exact conv1_sound s t y d ty pos af gg (hr y (by simp)) h
  case makeFunc fn first caps =>
    replace h := v0_inv h; obtain ⟨h, rfl, rfl⟩ := h
    exact makeFunc_sound fn first caps d ty pos af gg (fun y hy => hr y (by simp [hy])) h
  case makeMap t r =>
    replace h := v1_inv h; obtain ⟨h, rfl⟩ := h
    have : ∃ y, nw = [y] := by
      unfold makeMapT at h
      split at h
      · obtain ⟨z, _, h2⟩ := Option.map_eq_some_iff.1 h; exact ⟨_, (Prod.mk.inj h2).2.symm⟩
      · simp at h
    obtain ⟨y', hy'⟩ := this
    exact makeMap_sound hg (hn0 y' hy') t r d ty pos af gg h
  case makeSlice t y z =>
    replace h := v1_inv h; obtain ⟨h, rfl⟩ := h
    have : ∃ y, nw = [y] := by
      unfold makeSliceT at h
      obtain ⟨_, _, h⟩ := Option.bind_eq_some_iff.1 h
      obtain ⟨_, _, h⟩ := Option.bind_eq_some_iff.1 h
      obtain ⟨_, _, h⟩ := Option.bind_eq_some_iff.1 h
      obtain ⟨_, _, h⟩ := Option.bind_eq_some_iff.1 h
      split at h
      · split at h
        · split at h
          · simp only [Option.some.injEq, Prod.mk.injEq] at h; exact ⟨_, h.2.symm⟩
          · simp at h
        · simp at h
      · simp at h
    obtain ⟨y', hy'⟩ := this
    exact makeSlice_sound hg hobj (hn0 y' hy') t y z d ty pos af gg rfl (hr y (by simp)) (hr z (by simp)) h
  case slice t y lo hi mx =>
    replace h := v0_inv h; obtain ⟨h, rfl, rfl⟩ := h
    exact slice_sound t y lo hi mx d ty pos af gg (hr y (by simp)) (fun z hz => hr z (by rcases hz with rfl | rfl | rfl <;> simp)) h
  case fieldAddr t y i =>
    replace h := v0_inv h; obtain ⟨h, rfl, rfl⟩ := h
    exact fieldAddr_sound t y i d ty pos af gg (hr y (by simp)) h
  case field t y i =>
    replace h := v0_inv h; obtain ⟨h, rfl, rfl⟩ := h
    exact field_sound t y i d ty pos af gg (hr y (by simp)) h
  case indexAddr t y z =>
    replace h := v0_inv h; obtain ⟨h, rfl, rfl⟩ := h
    exact indexAddr_sound t y z d ty pos af gg (hr y (by simp)) (hr z (by simp)) h
  case index t y z =>
    replace h := v0_inv h; obtain ⟨h, rfl, rfl⟩ := h
    exact index_sound t y z d ty pos af gg (hr y (by simp)) (hr z (by simp)) h
  case lookup t y z ok =>
    replace h := v0_inv h; obtain ⟨h, rfl, rfl⟩ := h
    exact lookup_sound hobj t y z ok d ty pos af gg rfl (hr y (by simp)) (hr z (by simp)) h
  case extract y i =>
    replace h := v0_inv h; obtain ⟨h, rfl, rfl⟩ := h
    exact extract_sound y i d ty pos af gg (hr y (by simp)) h
  case call c =>
    obtain ⟨callee, args, ats⟩ := c
    cases callee with
    | value f =>
      simp only at h
      replace h := v1_inv h; obtain ⟨h, rfl⟩ := h
      exact call_sound hcl hg hobj f args ats d ty pos af gg rfl rfl hn (hr f (by simp [Call.operands])) (fun z hz => hr z (by simp [Call.operands, hz])) h
    | builtin b =>
      simp only at h
      replace h := v1_inv h; obtain ⟨h, rfl⟩ := h
      exact builtin_sound hg hobj b args ats d ty pos af gg hn (fun z hz => hr z (by simp [Call.operands, hz])) h
    | invoke => simp at h
  all_goals simp at h
end
end Go.Proofs.YtnbijiopcgfmfaaGreat.Tev
