/- Maps. -/
import Derived.Test.YtnbijiopcgfmfaaTevOps4
namespace Go.Proofs.Ytnbijiopcgfmfaa.Tev
open Go Go.RowKit
set_option linter.unusedSectionVars false
set_option linter.unusedVariables false
set_option linter.unusedSimpArgs false
section
variable {P : Program} {K : Ctx} {n : Nat} {ob : Nat → Option Ob} {a : Act}
theorem zero1_run {t : TypeId} {x : T} (h : zero1 P t = some x) : ∃ v, (∀ w, (zeroValue t).run P w = .ok v w) ∧ x = cellT v := by
  unfold zero1 at h
  obtain ⟨i, h1, h2⟩ := Option.bind_eq_some_iff.1 h
  obtain ⟨v, h3, h4⟩ := Option.map_eq_some_iff.1 h2
  refine ⟨v, fun w => ?_, h4.symm⟩
  show (Sem.bind (typeInfo t) _).run P w = _
  rw [Sem.run_bind', info_run h1]
  simp [Result.andThen, h3, Pure.pure, Sem.run]
theorem isIntMap_run {t e : TypeId} (h : isIntMap P t = some e) : ∃ k kk, P.underlying t = some (.map k e) ∧ P.underlying k = some (.int kk) := by
  unfold isIntMap at h
  split at h
  · rename_i k e' hu
    split at h
    · rename_i kk hk
      obtain rfl := Option.some.inj h
      exact ⟨k, kk, hu, hk⟩
    · simp at h
  · simp at h
theorem checkKey_run {k : TypeId} {kk : IntKind} (hk : P.underlying k = some (.int kk)) (q : Bool) (m : Nat) (v : Value) (w : World) : (Instr.checkKey q (m + 1) k v).run P w = .ok () w := by
  simp only [Instr.checkKey, bind, Sem.run_bind', under_run hk, Result.andThen, Pure.pure, Sem.run]
theorem get_map {w : World} {b : Nat} {ents : Array MapEntry} {cl : Nat} (h : w.heap[b]? = some (.map ents cl)) : (getObj b).run P w = .ok (.map ents cl) w := by
  simp [getObj, Sem.run, h]
theorem findKey_run {k : TypeId} {kk : IntKind} {kv : Value} {ents : List MapEntry} {q : Option (Nat × Value)} (hk : P.underlying k = some (.int kk)) (hq : Instr.findNow (.int kk) kv ents 0 = some q) (w : World) : (Instr.findKey k kv ents).run P w = .ok q w := by
  simp only [Instr.findKey, bind, Sem.run_bind', under_run hk, Result.andThen, hq, Pure.pure, Sem.run]
theorem keyIx_run {kk : IntKind} {kv : Value} : ∀ {es : List (Value × C × Nat)} {ents : List MapEntry} {r : Option Nat} {i : Nat} {w : World} {F : Nat → Prop}, REs w F es ents → keyIx kv es i = some r →
    ∃ q, Instr.findNow (.int kk) kv ents i = some q ∧ (q.map (·.1) = r) ∧ (∀ j, r = some j → i ≤ j ∧ ∃ e x, ents[j - i]? = some e ∧ es[j - i]? = some x ∧ q = some (j, e.val) ∧ RC w F x.2.1 e.val ∧ e.key = x.1 ∧ kv = x.1 ∧ e.born = x.2.2)
  | [], ents, r, i, w, F, hr, h => by
    simp [keyIx] at h; subst h
    simp only [REs] at hr; subst hr
    exact ⟨none, rfl, rfl, fun j hj => by simp at hj⟩
  | x :: es, ents, r, i, w, F, hr, h => by
    simp only [REs] at hr
    obtain ⟨e, rest, rfl, h1, h2, h3, h4⟩ := hr
    simp only [keyIx] at h
    split at h
    · rename_i a x1 b y1 e1
      split at h
      · rename_i hab
        subst hab
        split at h
        · rename_i hxy
          subst hxy
          obtain rfl := Option.some.inj h
          refine ⟨some (i, e.val), ?_, rfl, fun j hj => ?_⟩
          · simp [Instr.findNow, h1, e1, Instr.sameNow]
          · obtain rfl := Option.some.inj hj
            exact ⟨Nat.le_refl _, e, x, by simp, by simp, rfl, h2, h1, by rw [e1], h3⟩
        · rename_i hxy
          obtain ⟨q, h5, h6, h7⟩ := keyIx_run (kk := kk) h4 h
          refine ⟨q, ?_, h6, fun j hj => ?_⟩
          · simp only [Instr.findNow, h1, e1, Instr.sameNow, if_true]
            rw [show (x1 == y1) = false by simpa using hxy]
            exact h5
          · obtain ⟨h8, e', x', h9, h10, h11⟩ := h7 j hj
            refine ⟨by omega, e', x', ?_, ?_, h11⟩
            · rw [show j - i = (j - (i + 1)) + 1 by omega]; simpa using h9
            · rw [show j - i = (j - (i + 1)) + 1 by omega]; simpa using h10
      · simp at h
    · simp at h
theorem lookup_run {t k e : TypeId} {kk : IntKind} (hu1 : P.underlying t = some (.map k e)) (hu2 : P.underlying k = some (.int kk)) {w : World} {b : Nat} {ents : Array MapEntry} {cl : Nat} (hb : w.heap[b]? = some (.map ents cl)) {kv : Value} {q : Option (Nat × Value)}
    (hq : Instr.findNow (.int kk) kv ents.toList 0 = some q) {v0 : Value} (hz : (zeroValue e).run P w = .ok v0 w) (ok : Bool) :
    (Instr.lookup t (.map (some b)) kv ok).run P w = .ok (if ok then .tuple #[(q.map (·.2)).getD v0, .bool q.isSome] else (q.map (·.2)).getD v0) w := by
  have hc := checkKey_run (P := P) hu2 ents.isEmpty 9999 kv w
  simp only [Instr.lookup, bind, Sem.run_bind', under_run hu1, Result.andThen, get_map hb, Pure.pure, Sem.run, hc, findKey_run hu2 hq]
  cases q with
  | none => simp only [Sem.run_bind', hz, Result.andThen, Sem.run]; cases ok <;> rfl
  | some p => obtain ⟨i, v⟩ := p; simp only [Sem.run]; cases ok <;> rfl
theorem mapOf_sound (hobj : ∀ o x s, ob o = some x → K.σ o = some s → RO K s x) {S : St} (hob : ob = obj S.o) {m : T} {u : Value} {es : List (Value × C × Nat)} (r : RT K m u) (h : mapOf S m = some es) :
    ∃ b ents cl, u = .map (some b) ∧ K.w.heap[b]? = some (.map ents cl) ∧ REs K.w K.F es ents.toList := by
  unfold mapOf at h
  split at h
  · rename_i p
    simp only [RT] at r
    obtain ⟨b, sh, hs, hy⟩ := r
    split at h
    · rename_i es' cl ho
      obtain rfl := Option.some.inj h
      have hro := hobj p _ _ (by rw [hob]; exact ho) hs
      simp only [RO] at hro
      obtain ⟨b', ents, h3, _, _, h4, h5, _⟩ := hro
      obtain ⟨rfl, rfl⟩ := Prod.mk.inj (Option.some.inj h3)
      exact ⟨_, _, _, hy, h4, h5⟩
    · simp at h
  · obtain rfl := Option.some.inj h
    simp only [RT] at r
    obtain ⟨b, ents, cl, h1, _, h2, h3⟩ := r
    exact ⟨_, _, _, h1, h2, h3⟩
  · simp at h
theorem lookup_sound (hobj : ∀ o x s, ob o = some x → K.σ o = some s → RO K s x) (t : TypeId) (y z : Operand) (ok : Bool) (d : Option Nat) (ty : TypeId) (pos : String) (af : Array Edge) (g : Option (Nat × Bool)) {S : St} (hob : ob = obj S.o) {x : T}
    (hy : RT K (S.ev y) (a.eval y)) (hz : RT K (S.ev z) (a.eval z)) (h : lookupT P S t (S.ev y) (S.ev z) ok = some x) : Does P K n ob a ⟨d, .lookup t y z ok, ty, pos, af, g⟩ x [] [] := by
  unfold lookupT at h
  obtain ⟨e, h1, h⟩ := Option.bind_eq_some_iff.1 h
  obtain ⟨zz, h2, h⟩ := Option.bind_eq_some_iff.1 h
  obtain ⟨k, kk, hu1, hu2⟩ := isIntMap_run h1
  obtain ⟨v0, hv1, hv2⟩ := zero1_run h2
  split at h
  · rename_i kv zc e2
    rw [e2] at hz
    have hz := RT_v hz
    obtain ⟨es, ho, h⟩ := Option.bind_eq_some_iff.1 h
    obtain ⟨b, ents, cl, hy, h4, h5⟩ := mapOf_sound hobj hob hy ho
    · obtain ⟨r, h6, rfl⟩ := Option.map_eq_some_iff.1 h
      obtain ⟨q, h7, h8, h9⟩ := keyIx_run (kk := kk) h5 h6
      have hrv0 : RC K.w K.F zc v0 := by
        have := RT_cellT K v0
        rw [← hv2] at this
        simpa only [RT] using this
      have hrun := lookup_run (P := P) hu1 hu2 h4 h7 (hv1 K.w) ok
      have hval : RC K.w K.F (((r.bind (es[·]?)).map (·.2.1)).getD zc) ((q.map (·.2)).getD v0) := by
        cases hr : r with
        | none =>
          rw [hr] at h8
          cases q with
          | none => exact hrv0
          | some p => simp at h8
        | some j =>
          obtain ⟨_, e', x', h10, h11, h12, h13, _⟩ := h9 j hr
          simp only [Nat.sub_zero] at h11
          rw [h12]
          simp only [Option.bind_some, h11, Option.map_some, Option.getD_some]
          exact h13
      have hsome : q.isSome = r.isSome := by rw [← h8]; cases q <;> rfl
      refine .pure (val := if ok then .tuple #[(q.map (·.2)).getD v0, .bool q.isSome] else (q.map (·.2)).getD v0) ?_ ?_
      · simp only [execOp]
        rw [hy, hz, run_value, hrun]; rfl
      · cases ok with
        | false => simp only [cond_false, Bool.false_eq_true, if_false, RT]; exact hval
        | true =>
          simp only [cond_true, if_true, RT]
          refine ⟨[_, _], rfl, ?_⟩
          simp only [RTs]
          exact ⟨_, _, rfl, by simp only [RT]; exact hval, _, _, rfl, by simp [RT, RC, flat, hsome], rfl⟩
  · simp at h
end
end Go.Proofs.Ytnbijiopcgfmfaa.Tev
