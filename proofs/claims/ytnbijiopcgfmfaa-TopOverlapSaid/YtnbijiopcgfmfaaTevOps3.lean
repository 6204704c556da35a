/- Slices, structs, rows, maps. -/
import Derived.Test.YtnbijiopcgfmfaaTevOps2
namespace Go.Proofs.Ytnbijiopcgfmfaa.Tev
open Go Go.RowKit
set_option linter.unusedSectionVars false
set_option linter.unusedVariables false
set_option linter.unusedSimpArgs false

section
variable {P : Program} {K : Ctx} {n : Nat} {ob : Nat → Option Ob} {a : Act}

theorem bound_run {x : T} {y k : Nat} {u : Value} (h : boundI x y = some k) (r : RT K x u) (z : Nat) (hz : y ≤ z) (code : BoundsCode) (w : World) : (Instr.sliceBound u z code).run P w = .ok k w ∧ k ≤ y := by
  unfold boundI at h
  obtain ⟨i, h1, h⟩ := Option.bind_eq_some_iff.1 h
  obtain ⟨kk, rfl⟩ := asI_sound h1 r
  split at h
  · rename_i hb
    obtain rfl := Option.some.inj h
    refine ⟨?_, by omega⟩
    simp only [Instr.sliceBound, asIntOf, bind, Pure.pure, Sem.bind]
    rw [if_pos ⟨hb.1, by omega⟩]; rfl
  · simp at h
theorem lowB_run {lo : Option T} {h l h' : Nat} {cp cp' : Option Nat} {ulo : Option Value} (he : lowB lo h cp = some (l, h', cp')) (r : ∀ x, lo = some x → ∃ u, ulo = some u ∧ RT K x u) (rn : lo = none → ulo = none) (code : BoundsCode) (w : World) :
    (match ulo with | some v => Instr.sliceBound v h code | none => (Pure.pure 0 : Sem Nat)).run P w = .ok l w ∧ l ≤ h ∧ h' = h ∧ cp' = cp := by
  cases lo with
  | none =>
    simp [lowB] at he
    obtain ⟨rfl, rfl, rfl⟩ := he
    rw [rn rfl]
    exact ⟨rfl, Nat.zero_le _, rfl, rfl⟩
  | some x =>
    obtain ⟨u, rfl, hr⟩ := r x rfl
    simp only [lowB] at he
    obtain ⟨k, h1, h2⟩ := Option.map_eq_some_iff.1 he
    simp only [Prod.mk.injEq] at h2
    obtain ⟨rfl, rfl, rfl⟩ := h2
    have := bound_run (P := P) h1 hr h (Nat.le_refl _) code w
    exact ⟨this.1, this.2, rfl, rfl⟩
theorem sliceBnd_run {len c : Nat} {cap : Option Nat} {lo hi mx : Option T} {ulo uhi umx : Option Value} {l h : Nat} {cp : Option Nat} (hc : len ≤ c) (hex : exact? cap c)
    (rlo : ∀ x, lo = some x → ∃ u, ulo = some u ∧ RT K x u) (rlo' : lo = none → ulo = none) (rhi : ∀ x, hi = some x → ∃ u, uhi = some u ∧ RT K x u) (rhi' : hi = none → uhi = none)
    (rmx : ∀ x, mx = some x → ∃ u, umx = some u ∧ RT K x u) (rmx' : mx = none → umx = none) (he : sliceBnd len cap lo hi mx = some (l, h, cp)) :
    ∃ m, (∀ w, (Instr.sliceBounds true len c ulo uhi umx).run P w = .ok (l, h, m) w) ∧ l ≤ h ∧ h ≤ m ∧ h ≤ len ∧ m ≤ c ∧ exact? cp m := by
  cases mx with
  | none =>
    rw [rmx' rfl]
    cases hi with
    | none =>
      rw [rhi' rfl]
      simp only [sliceBnd] at he
      obtain ⟨hr, h1, rfl, rfl⟩ := lowB_run (P := P) he rlo rlo' .sliceB default
      refine ⟨c, fun w => ?_, h1, hc, Nat.le_refl _, Nat.le_refl _, hex⟩
      have hr := (lowB_run (P := P) he rlo rlo' .sliceB w).1
      simp only [Instr.sliceBounds, bind, Pure.pure, Sem.bind, Sem.run_bind', Option.isSome, Bool.false_eq_true, if_false] at hr ⊢
      cases ulo with
      | none => simp only [Sem.run, Result.ok.injEq, and_true] at hr ⊢; simp [hr]
      | some v => simp only [Sem.run_bind'] at hr ⊢; rw [hr]; rfl
    | some x =>
      obtain ⟨u, rfl, hu⟩ := rhi x rfl
      simp only [sliceBnd] at he
      obtain ⟨hh, h1, he⟩ := Option.bind_eq_some_iff.1 he
      obtain ⟨_, h2, rfl, rfl⟩ := lowB_run (P := P) he rlo rlo' .sliceB default
      have h3 := (bound_run (P := P) h1 hu c hc .sliceAcap default).2
      refine ⟨c, fun w => ?_, h2, by omega, h3, Nat.le_refl _, hex⟩
      have hr := (lowB_run (P := P) he rlo rlo' .sliceB w).1
      have hr2 := (bound_run (P := P) h1 hu c hc .sliceAcap w).1
      simp only [Instr.sliceBounds, bind, Pure.pure, Sem.bind, Sem.run_bind', Option.isSome, Bool.false_eq_true, if_false, if_true] at hr ⊢
      rw [hr2]
      simp only [Result.andThen]
      cases ulo with
      | none => simp only [Sem.run, Result.ok.injEq, and_true] at hr ⊢; simp [hr]
      | some v => simp only [Sem.run_bind'] at hr ⊢; rw [hr]; rfl
  | some y =>
    obtain ⟨v, rfl, hv⟩ := rmx y rfl
    cases hi with
    | none => simp [sliceBnd] at he
    | some x =>
      obtain ⟨u, rfl, hu⟩ := rhi x rfl
      simp only [sliceBnd] at he
      obtain ⟨m, h0, he⟩ := Option.bind_eq_some_iff.1 he
      obtain ⟨hh, h1, he⟩ := Option.bind_eq_some_iff.1 he
      obtain ⟨_, h2, rfl, rfl⟩ := lowB_run (P := P) he rlo rlo' .slice3C default
      have h3 := (bound_run (P := P) h1 hu m (Nat.le_refl _) .slice3B default).2
      have h4 := (bound_run (P := P) h0 hv c hc .slice3Acap default).2
      refine ⟨m, fun w => ?_, h2, h3, by omega, by omega, fun k hk => by simpa using hk⟩
      have hr := (lowB_run (P := P) he rlo rlo' .slice3C w).1
      have hr2 := (bound_run (P := P) h1 hu m (Nat.le_refl _) .slice3B w).1
      have hr3 := (bound_run (P := P) h0 hv c hc .slice3Acap w).1
      simp only [Instr.sliceBounds, bind, Pure.pure, Sem.bind, Sem.run_bind', Option.isSome, if_true] at hr ⊢
      rw [hr3]
      simp only [Result.andThen]
      rw [hr2]
      simp only [Result.andThen]
      cases ulo with
      | none => simp only [Sem.run, Result.ok.injEq, and_true] at hr ⊢; simp [hr]
      | some v => simp only [Sem.run_bind'] at hr ⊢; rw [hr]; rfl
theorem exact_sub {cp : Option Nat} {m l : Nat} (h : exact? cp m) : exact? (cp.map (· - l)) (m - l) := by
  intro k hk
  obtain ⟨c, h1, rfl⟩ := Option.map_eq_some_iff.1 hk
  rw [h c h1]
theorem rowAt_zero (l : List C) (o : Nat) : rowAt l o 0 = [] := by simp [rowAt]
theorem slice_sound (t : TypeId) (y : Operand) (lo hi mx : Option Operand) (d : Option Nat) (ty : TypeId) (pos : String) (af : Array Edge) (g : Option (Nat × Bool)) {S : St} {x : T}
    (hy : RT K (S.ev y) (a.eval y)) (hr : ∀ z, lo = some z ∨ hi = some z ∨ mx = some z → RT K (S.ev z) (a.eval z))
    (h : sliceO P S t (S.ev y) (lo.map S.ev) (hi.map S.ev) (mx.map S.ev) = some x) : Does P K n ob a ⟨d, .slice t y lo hi mx, ty, pos, af, g⟩ x [] [] := by
  unfold sliceO at h
  obtain ⟨e, h1, h⟩ := Option.bind_eq_some_iff.1 h
  obtain ⟨sz, h2, h⟩ := Option.bind_eq_some_iff.1 h
  have rel : ∀ q : Option Operand, (∀ z, q = some z → RT K (S.ev z) (a.eval z)) → (∀ x, q.map S.ev = some x → ∃ u, q.map a.eval = some u ∧ RT K x u) ∧ (q.map S.ev = none → q.map a.eval = none) := by
    intro q hq
    cases q with
    | none => simp
    | some z => exact ⟨fun x hx => by simp at hx; subst hx; exact ⟨_, rfl, hq z rfl⟩, by simp⟩
  obtain ⟨r1, r1'⟩ := rel lo fun z hz => hr z (.inl hz)
  obtain ⟨r2, r2'⟩ := rel hi fun z hz => hr z (.inr (.inl hz))
  obtain ⟨r3, r3'⟩ := rel mx fun z hz => hr z (.inr (.inr hz))
  have key : ∀ (A : Option Addr) (len c l h m : Nat), a.eval y = .slice A len c → (∀ w, (Instr.sliceBounds true len c (lo.map a.eval) (hi.map a.eval) (mx.map a.eval)).run P w = .ok (l, h, m) w) →
      RT K x (.slice (if m = l then A else A.map (·.add (l * sz))) (h - l) (m - l)) → Does P K n ob a ⟨d, .slice t y lo hi mx, ty, pos, af, g⟩ x [] [] := by
    intro A len c l h m e1 e2 r
    refine .pure ?_ r
    simp only [execOp]
    rw [run_value, e1]
    simp only [Instr.sliceAt, Instr.slice, bind, Sem.run_bind', under_run (elemOf_run h1), Result.andThen, e2, szOf_run h2, Pure.pure, Sem.run]
  unfold sliceT at h
  split at h
  · rename_i cap len l e1
    obtain ⟨p, h3, rfl⟩ := Option.map_eq_some_iff.1 h
    obtain ⟨lo', hi', cp⟩ := p
    rw [e1] at hy; simp only [RT, RC] at hy
    obtain ⟨A, c, e2, h4, h5, h6⟩ := hy
    obtain ⟨m, h7, h8, h9, h10, h11, h12⟩ := sliceBnd_run (P := P) h4 h5 r1 r1' r2 r2' r3 r3' h3
    refine key A len c lo' hi' m e2 h7 ?_
    simp only [RT, RC]
    refine ⟨_, _, rfl, by omega, exact_sub h12, ?_⟩
    by_cases hz : hi' - lo' = 0
    · exact .inl ⟨hz, by rw [hz, Nat.zero_mul, rowAt_zero]⟩
    · rcases h6 with ⟨rfl, _⟩ | ⟨b, o, rfl, hF, hl⟩
      · omega
      · rw [if_neg (by omega)]
        exact .inr ⟨b, o + lo' * sz, by simp [Addr.add0], hF, RCs_row hl _ _⟩
  · rename_i cap len l e1
    obtain ⟨p, h3, rfl⟩ := Option.map_eq_some_iff.1 h
    obtain ⟨lo', hi', cp⟩ := p
    rw [e1] at hy; simp only [RT] at hy
    obtain ⟨A, c, e2, h4, h5, h6⟩ := hy
    obtain ⟨m, h7, h8, h9, h10, h11, h12⟩ := sliceBnd_run (P := P) h4 h5 r1 r1' r2 r2' r3 r3' h3
    refine key A len c lo' hi' m e2 h7 ?_
    simp only [RT]
    refine ⟨_, _, rfl, by omega, exact_sub h12, ?_⟩
    by_cases hz : hi' - lo' = 0
    · exact .inl ⟨hz, by rw [hz, Nat.zero_mul, rowAt_zero]⟩
    · rcases h6 with ⟨rfl, _⟩ | ⟨b, o, rfl, hF, hl⟩
      · omega
      · rw [if_neg (by omega)]
        exact .inr ⟨b, o + lo' * sz, by simp [Addr.add0], hF, RCs_row hl _ _⟩
  · rename_i o off len sz' cap e1
    split at h
    · rename_i hsz
      subst hsz
      obtain ⟨p, h3, rfl⟩ := Option.map_eq_some_iff.1 h
      obtain ⟨lo', hi', cp⟩ := p
      rw [e1] at hy; simp only [RT] at hy
      obtain ⟨A, c, e2, h4, h5, h6⟩ := hy
      obtain ⟨m, h7, h8, h9, h10, h11, h12⟩ := sliceBnd_run (P := P) h4 h5 r1 r1' r2 r2' r3 r3' h3
      refine key A len c lo' hi' m e2 h7 ?_
      simp only [RT]
      refine ⟨_, _, rfl, by omega, exact_sub h12, ?_⟩
      rcases h6 with ⟨rfl, s, hs⟩ | ⟨b, sh, hs, rfl, cs, ee, fr, hb, hroom⟩
      · exact .inl ⟨by omega, s, hs⟩
      · by_cases hm : m = lo'
        · exact .inl ⟨by omega, _, hs⟩
        · rw [if_neg hm]
          refine .inr ⟨b, sh, hs, by simp [Addr.add0, Nat.add_assoc], cs, ee, fr, hb, ?_⟩
          have : lo' * sz' + (m - lo') * sz' ≤ c * sz' := by rw [← Nat.add_mul]; exact Nat.mul_le_mul_right _ (by omega)
          omega
    · simp at h
  · simp at h

/-! Structs. -/
theorem fill_one (cells : Array Value) (v : Array Value) (off : Nat) (h : off + v.size ≤ cells.size) :
    v.zipIdx.foldl (fun cs (x : Value × Nat) => cs.setIfInBounds (off + x.2) x.1) cells = (splice cells.toList off v.toList).toArray := by
  have key : ∀ (l : List Value) (i : Nat) (cs : List Value), off + i + l.length ≤ cs.length →
      (l.zipIdx i).foldl (fun (cs : Array Value) (x : Value × Nat) => cs.setIfInBounds (off + x.2) x.1) cs.toArray = (splice cs (off + i) l).toArray := by
    intro l
    induction l with
    | nil => intro i cs _; simp [splice]
    | cons u l ih =>
      intro i cs hl
      simp only [List.zipIdx_cons, List.foldl_cons, List.setIfInBounds_toArray]
      rw [ih (i + 1) (cs.set (off + i) u) (by simp at hl ⊢; omega)]
      congr 1
      apply List.ext_getElem?
      intro j
      simp only [splice, List.length_cons] at hl ⊢
      simp only [List.getElem?_append, List.getElem?_take, List.getElem?_drop, List.length_append, List.length_take, List.length_set, List.getElem?_set, List.getElem?_cons]
      repeat' split
      all_goals (try simp only [List.length_cons] at *)
      all_goals (try omega)
      all_goals (try rfl)
      all_goals (congr 1; omega)
  have := key v.toList 0 cells.toList (by simpa using h)
  simp only [Nat.add_zero, Array.toArray_toList] at this
  rw [← this, ← Array.foldl_toList, Array.toList_zipIdx]

theorem fill_sound {plT plV : Nat → Option (Nat × Nat)} (hpl : ∀ i p, plT i = some p → plV i = some p) : ∀ (ps : List (Nat × T)) (vs : List (Nat × Value)) (cs : List T) (us : Array Value) (r : List T),
    RTs K cs us.toList → vs.length = ps.length → (∀ (j : Nat) (p : Nat × T) (q : Nat × Value), ps[j]? = some p → vs[j]? = some q → p.1 = q.1 ∧ RT K p.2 q.2) → fillT plT cs ps = some r →
    ∃ vr : Array Value, Instr.fill plV us vs = some vr ∧ RTs K r vr.toList
  | [], vs, cs, us, r, hl, hlen, _, h => by
    simp [fillT] at h; subst h
    obtain rfl : vs = [] := List.length_eq_zero_iff.1 (by simpa using hlen)
    exact ⟨us, rfl, hl⟩
  | (i, x) :: ps, vs, cs, us, r, hl, hlen, hrel, h => by
    cases vs with
    | nil => simp at hlen
    | cons q vs =>
      obtain ⟨i', v⟩ := q
      obtain ⟨e1, r1⟩ := hrel 0 (i, x) (i', v) rfl rfl
      simp only at e1 r1
      subst e1
      simp only [fillT] at h
      obtain ⟨p, h1, h⟩ := Option.bind_eq_some_iff.1 h
      obtain ⟨l, h2, h⟩ := Option.bind_eq_some_iff.1 h
      split at h
      · rename_i hb
        have hc := cellsOf_sound h2 r1
        have hcl := RTs_length _ _ hc
        have hul := RTs_length _ _ hl
        simp only [Array.length_toList] at hcl hul
        obtain ⟨off, sz⟩ := p
        simp only at hb
        have hnew : RTs K (splice cs off l) (splice us.toList off v.cells.toList) := RTs_splice hl hc off
        obtain ⟨vr, h3, h4⟩ := fill_sound hpl ps vs _ ((splice us.toList off v.cells.toList).toArray) r (by simpa using hnew) (by simpa using hlen)
          (fun j p q hp hq => hrel (j + 1) p q (by simpa using hp) (by simpa using hq)) h
        refine ⟨vr, ?_, h4⟩
        simp only [Instr.fill, hpl i _ h1]
        rw [if_neg (by simp; omega), fill_one us v.cells off (by omega)]
        exact h3
      · simp at h
theorem parts_rel {S : St} (ps : Array (Nat × Operand)) (hr : ∀ p ∈ ps, RT K (S.ev p.2) (a.eval p.2)) :
    ((ps.map fun (i, x) => (i, a.eval x)).toList.length = (ps.toList.map fun p => (p.1, S.ev p.2)).length) ∧
    ∀ (j : Nat) (p : Nat × T) (q : Nat × Value), (ps.toList.map fun p => (p.1, S.ev p.2))[j]? = some p → (ps.map fun (i, x) => (i, a.eval x)).toList[j]? = some q → p.1 = q.1 ∧ RT K p.2 q.2 := by
  refine ⟨by simp, fun j p q hp hq => ?_⟩
  simp only [Array.toList_map, List.getElem?_map] at hp hq
  cases hj : ps.toList[j]? with
  | none => simp [hj] at hp
  | some z =>
    simp only [hj, Option.map_some, Option.some.injEq] at hp hq
    subst hp; subst hq
    exact ⟨rfl, hr z (by have := List.mem_of_getElem? hj; simpa using this)⟩
theorem run_mapM_places (w : World) : ∀ (l : List Field) (r : List (Nat × Nat)), mapO (fun f : Field => (szOf P f.type).map fun s => (f.offset, s)) l = some r →
    (l.mapM fun f => (Sem.bind (sizeOf f.type) fun s => Sem.pure (f.offset, s)) : Sem (List (Nat × Nat))).run P w = .ok r w
  | [], r, h => by simp [mapO] at h; subst h; rfl
  | f :: l, r, h => by
    simp only [mapO] at h
    obtain ⟨y, h1, h⟩ := Option.bind_eq_some_iff.1 h
    obtain ⟨z, h2, rfl⟩ := Option.map_eq_some_iff.1 h
    obtain ⟨s, h3, rfl⟩ := Option.map_eq_some_iff.1 h1
    have ih := run_mapM_places w l z h2
    rw [List.mapM_cons]
    simp only [bind, Sem.run_bind', szOf_run h3, Result.andThen, Pure.pure, Sem.run]
    rw [ih]
theorem build_sound (t : TypeId) (ps : Array (Nat × Operand)) (d : Option Nat) (ty : TypeId) (pos : String) (af : Array Edge) (g : Option (Nat × Bool)) {S : St} {x : T}
    (hr : ∀ p ∈ ps, RT K (S.ev p.2) (a.eval p.2)) (h : buildT P t (ps.toList.map fun p => (p.1, S.ev p.2)) = some x) : Does P K n ob a ⟨d, .build t ps, ty, pos, af, g⟩ x [] [] := by
  unfold buildT at h
  obtain ⟨z, h1, h⟩ := Option.bind_eq_some_iff.1 h
  obtain ⟨pl, h2, h⟩ := Option.bind_eq_some_iff.1 h
  obtain ⟨r, h3, rfl⟩ := Option.map_eq_some_iff.1 h
  obtain ⟨v, h4, h5, _⟩ := zero_run h1
  obtain ⟨hp1, hp2⟩ := parts_rel ps hr
  unfold placesOf at h2
  split at h2
  · rename_i fs hu
    obtain ⟨l, h6, rfl⟩ := Option.map_eq_some_iff.1 h2
    obtain ⟨vr, h7, h8⟩ := fill_sound (plT := (Pl.st l).at) (plV := (l.toArray[·]?)) (fun i p hi => by simpa [Pl.at] using hi) _ _ z v.cells r (h5 K) hp1 hp2 h3
    refine .pure (val := .agg vr) ?_ (by simp only [RT]; exact ⟨vr.toList, by simp, h8⟩)
    have hm : ∀ w, (fs.mapM fun f => (Sem.bind (sizeOf f.type) fun s => Sem.pure (f.offset, s)) : Sem (Array (Nat × Nat))).run P w = .ok l.toArray w := by
      intro w
      rw [Array.mapM_eq_mapM_toList]
      show (Sem.bind _ _).run P w = _
      rw [Sem.run_bind', run_mapM_places w _ _ h6]
      rfl
    simp only [execOp]
    rw [run_value]
    simp only [Instr.build, bind, Sem.run_bind', h4, Result.andThen, under_run hu, Pure.pure, hm, h7, Sem.run]
  · rename_i k e hu
    obtain ⟨sz, h6, rfl⟩ := Option.map_eq_some_iff.1 h2
    obtain ⟨vr, h7, h8⟩ := fill_sound (plT := (Pl.ar sz).at) (plV := fun i => some (i * sz, sz)) (fun i p hi => by simpa [Pl.at] using hi) _ _ z v.cells r (h5 K) hp1 hp2 h3
    refine .pure (val := .agg vr) ?_ (by simp only [RT]; exact ⟨vr.toList, by simp, h8⟩)
    simp only [execOp]
    rw [run_value]
    simp only [Instr.build, bind, Sem.run_bind', h4, Result.andThen, under_run hu, Pure.pure, szOf_run h6, h7, Sem.run]
  · simp at h2
end
end Go.Proofs.Ytnbijiopcgfmfaa.Tev
