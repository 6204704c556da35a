/- All operations that write nothing old. -/
import Derived.Test.YtnbijiopcgfmfaaTevOps7
import Derived.Test.YtnbijiopcgfmfaaTevMap
namespace Go.Proofs.Ytnbijiopcgfmfaa.Tev
open Go Go.RowKit
set_option linter.unusedSectionVars false
set_option linter.unusedVariables false
set_option linter.unusedSimpArgs false
section
variable {P : Program} {K : Ctx} {a : Act}
theorem w0_inv {r : Option T} {x : T} {nw : List Ob} (h : w0 r = some (x, nw)) : r = some x ∧ nw = [] := by
  cases r with
  | none => simp [w0] at h
  | some y => simp [w0] at h; exact ⟨by rw [h.1], h.2⟩
theorem map1 {l : List Operand} {S : St} {x : T} (h : l.map S.ev = [x]) : ∃ y, l = [y] ∧ S.ev y = x := by
  match l, h with
  | [y], h => exact ⟨y, rfl, by simpa using h⟩
theorem map2 {l : List Operand} {S : St} {x y : T} (h : l.map S.ev = [x, y]) : ∃ p q, l = [p, q] ∧ S.ev p = x ∧ S.ev q = y := by
  match l, h with
  | [p, q], h => exact ⟨p, q, rfl, by simpa using h⟩
theorem lenT_sound {S : St} (hobj : ∀ o x s, obj S.o o = some x → K.σ o = some s → RO K s x) {t : TypeId} {ats : Array TypeId} (ht : ats[0]? = some t) (ty : TypeId) {x z : T} {u : Value} (r : RT K x u) (h : lenT S (P.underlying t) x = some z) :
    ∃ v, RT K z v ∧ (Builtin.len_ ats ty #[u]).run P K.w = .ok v K.w := by
  unfold lenT at h
  split at h
  · rename_i s hu
    obtain rfl := Option.some.inj h
    refine ⟨.int .i64 s.size, by simp [RT, RC, flat], ?_⟩
    rw [RT_v r]
    simp only [Builtin.len_, ht, List.getElem?_toArray, List.getElem?_cons_zero, bind, Sem.run_bind', under_run hu, Result.andThen, Pure.pure, Sem.run, goInt]
  · rename_i e hu
    obtain rfl := Option.some.inj h
    simp only [RT, RC] at r
    obtain ⟨A, c, rfl, _⟩ := r
    refine ⟨.int .i64 _, by simp only [RT, RC]; exact ⟨rfl, rfl⟩, ?_⟩
    simp only [Builtin.len_, ht, List.getElem?_toArray, List.getElem?_cons_zero, bind, Sem.run_bind', under_run hu, Result.andThen, Pure.pure, Sem.run, goInt]
  · rename_i e hu
    obtain rfl := Option.some.inj h
    simp only [RT] at r
    obtain ⟨A, c, rfl, _⟩ := r
    refine ⟨.int .i64 _, by simp only [RT, RC]; exact ⟨rfl, rfl⟩, ?_⟩
    simp only [Builtin.len_, ht, List.getElem?_toArray, List.getElem?_cons_zero, bind, Sem.run_bind', under_run hu, Result.andThen, Pure.pure, Sem.run, goInt]
  · rename_i e hu
    obtain rfl := Option.some.inj h
    simp only [RT] at r
    obtain ⟨A, c, rfl, _⟩ := r
    refine ⟨.int .i64 _, by simp only [RT, RC]; exact ⟨rfl, rfl⟩, ?_⟩
    simp only [Builtin.len_, ht, List.getElem?_toArray, List.getElem?_cons_zero, bind, Sem.run_bind', under_run hu, Result.andThen, Pure.pure, Sem.run, goInt]
  · rename_i k e o hu
    split at h
    · rename_i es cl ho
      obtain rfl := Option.some.inj h
      simp only [RT] at r
      obtain ⟨b, sh, hs, rfl⟩ := r
      have hro := hobj o _ _ ho hs
      simp only [RO] at hro
      obtain ⟨b', ents, h1, _, _, h2, h3, _⟩ := hro
      obtain ⟨rfl, rfl⟩ := Prod.mk.inj (Option.some.inj h1)
      have hlen : ∀ (es : List (Value × C × Nat)) (l : List MapEntry), REs K.w K.F es l → l.length = es.length := by
        intro es
        induction es with
        | nil => intro l h; simp only [REs] at h; subst h; rfl
        | cons x es ih => intro l h; simp only [REs] at h; obtain ⟨e, r, rfl, _, _, _, h⟩ := h; simp [ih r h]
      have hl := hlen _ _ h3
      refine ⟨.int .i64 es.length, by simp [RT, RC, flat], ?_⟩
      have hget : (getObj b).run P K.w = .ok (.map ents cl) K.w := by simp [getObj, Sem.run, h2]
      simp only [Builtin.len_, ht, List.getElem?_toArray, List.getElem?_cons_zero, bind, Sem.run_bind', under_run hu, hget, Result.andThen, Pure.pure, Sem.run, goInt]
      rw [← hl]; simp
    · simp at h
  · rename_i es hu
    obtain rfl := Option.some.inj h
    simp only [RT] at r
    obtain ⟨b, ents, cl, rfl, _, h2, h3⟩ := r
    · skip
      have hlen : ∀ (es : List (Value × C × Nat)) (l : List MapEntry), REs K.w K.F es l → l.length = es.length := by
        intro es
        induction es with
        | nil => intro l h; simp only [REs] at h; subst h; rfl
        | cons x es ih => intro l h; simp only [REs] at h; obtain ⟨e, r, rfl, _, _, _, h⟩ := h; simp [ih r h]
      have hl := hlen _ _ h3
      refine ⟨.int .i64 es.length, by simp [RT, RC, flat], ?_⟩
      have hget : (getObj b).run P K.w = .ok (.map ents cl) K.w := by simp [getObj, Sem.run, h2]
      simp only [Builtin.len_, ht, List.getElem?_toArray, List.getElem?_cons_zero, bind, Sem.run_bind', under_run hu, hget, Result.andThen, Pure.pure, Sem.run, goInt]
      rw [← hl]; simp
  · simp at h
theorem builtin_sound (hg : Good K) {S : St} (hobj : ∀ o x s, obj S.o o = some x → K.σ o = some s → RO K s x) (b : Builtin) (args : Array Operand) (ats : Array TypeId) (d : Option Nat) (ty : TypeId) (pos : String) (af : Array Edge) (gg : Option (Nat × Bool)) {x : T} {nw : List Ob}
    (hn : ∀ i, i < nw.length → K.σ (S.n + i) = none) (hz : ∀ z ∈ args, RT K (S.ev z) (a.eval z)) (h : builtinT P S b ats (args.toList.map S.ev) = some (x, nw)) :
    Does P K S.n (obj S.o) a ⟨d, .call ⟨.builtin b, args, ats⟩, ty, pos, af, gg⟩ x nw [] := by
  have fin : ∀ (v : Value), nw = [] → (builtin b ats ty (args.map fun | .const _ => true | _ => false) (args.map a.eval)).run P K.w = .ok (.value v) K.w → RT K x v → Does P K S.n (obj S.o) a ⟨d, .call ⟨.builtin b, args, ats⟩, ty, pos, af, gg⟩ x nw [] := by
    intro v e hr r
    subst e
    exact .pure (val := v) (by exact hr) r
  have key : ∀ l : List Operand, args = l.toArray → Does P K S.n (obj S.o) a ⟨d, .call ⟨.builtin b, args, ats⟩, ty, pos, af, gg⟩ x nw [] := by
    intro l hl
    have hmap : args.map a.eval = (l.map a.eval).toArray := by rw [hl]; simp
    have htl : args.toList = l := by rw [hl]
    have hz' : ∀ z ∈ l, RT K (S.ev z) (a.eval z) := fun z hm => hz z (by rw [hl]; simpa using hm)
    rw [htl] at h
    rw [hmap] at fin
    unfold builtinT at h
    split at h
    · rename_i y e
      obtain ⟨p, rfl, rfl⟩ := map1 e
      obtain ⟨t, ht, h1⟩ := Option.bind_eq_some_iff.1 h
      obtain ⟨h2, e2⟩ := w0_inv h1
      subst e2
      obtain ⟨v, r, hr⟩ := lenT_sound hobj ht ty (hz' p (by simp)) h2
      refine fin v rfl ?_ r
      simp only [builtin, List.map_cons, List.map_nil]
      rw [run_value, hr]; rfl
    · rename_i y z e
      obtain ⟨p, q, rfl, rfl, rfl⟩ := map2 e
      replace h := w0_inv h; obtain ⟨h, rfl⟩ := h
      unfold minT at h
      split at h
      · rename_i k i k' j e1 e2
        obtain rfl := Option.some.inj h
        have h1 := hz' p (by simp); have h2 := hz' q (by simp)
        rw [e1] at h1; rw [e2] at h2
        refine fin (.int k (if j < i then j else i)) rfl ?_ (by simp [RT, RC, flat])
        simp only [builtin, List.map_cons, List.map_nil, RT_v h1, RT_v h2]
        rw [run_value]
        simp [Builtin.min_, Builtin.min2, List.foldlM, bind, Pure.pure, Sem.bind, Sem.run, Result.andThen]
      · simp at h
    · rename_i y z e
      obtain ⟨p, q, rfl, rfl, rfl⟩ := map2 e
      replace h := w0_inv h; obtain ⟨h, rfl⟩ := h
      unfold maxT at h
      split at h
      · rename_i k i k' j e1 e2
        obtain rfl := Option.some.inj h
        have h1 := hz' p (by simp); have h2 := hz' q (by simp)
        rw [e1] at h1; rw [e2] at h2
        refine fin (.int k (if j > i then j else i)) rfl ?_ (by simp [RT, RC, flat])
        simp only [builtin, List.map_cons, List.map_nil, RT_v h1, RT_v h2]
        rw [run_value]
        simp [Builtin.max_, Builtin.max2, List.foldlM, bind, Pure.pure, Sem.bind, Sem.run, Result.andThen]
      · simp at h
    · rename_i y z e
      obtain ⟨p, q, rfl, rfl, rfl⟩ := map2 e
      obtain ⟨e0, he, h⟩ := Option.bind_eq_some_iff.1 h
      obtain ⟨e1, he1, h⟩ := Option.bind_eq_some_iff.1 h
      obtain ⟨t0, h0, he⟩ := Option.bind_eq_some_iff.1 he
      obtain ⟨t1, h1, he1⟩ := Option.bind_eq_some_iff.1 he1
      have : ∃ y, nw = [y] := by
        have app : ∀ (n k m by_ sz : Nat) (l x' : List C) (g gen : Nat), app1 n k m by_ sz l x' g gen = some (x, nw) → ∃ y, nw = [y] := by
          intro n k m by_ sz l x' g gen h
          unfold app1 at h
          split at h
          · simp only [Option.some.injEq, Prod.mk.injEq] at h; exact ⟨_, h.2.symm⟩
          · simp at h
        unfold appendT at h
        obtain ⟨_, _, h⟩ := Option.bind_eq_some_iff.1 h
        obtain ⟨_, _, h⟩ := Option.bind_eq_some_iff.1 h
        obtain ⟨_, _, h⟩ := Option.bind_eq_some_iff.1 h
        obtain ⟨_, _, h⟩ := Option.bind_eq_some_iff.1 h
        split at h
        · split at h
          · exact app _ _ _ _ _ _ _ _ _ h
          · split at h
            · split at h
              · exact app _ _ _ _ _ _ _ _ _ h
              · simp at h
            · simp at h
          · simp at h
        · simp at h
      obtain ⟨y', hy'⟩ := this
      have hn0 : K.σ S.n = none := by simpa using hn 0 (by simp [hy'])
      rw [hl]
      exact append_sound hg hobj hn0 h0 he h1 he1 p q d ty pos af gg rfl rfl (hz' p (by simp)) (hz' q (by simp)) h
    · simp at h
  exact key args.toList (by simp)
/-- Every operation but a store. -/
theorem opN_sound {E : Env} {cl : FuncId → List T → Option R} (hcl : CallOK E.P cl) (hg : Good K) {S : St} (hobj : ∀ o x s, obj S.o o = some x → K.σ o = some s → RO K s x) (o : Oper) {x : T} {nw : List Ob} {fz : List Nat}
    (hn : ∀ i, i < nw.length → K.σ (S.n + i) = none) (hr : ∀ z ∈ o.op.operands, RT K (S.ev z) (a.eval z)) (h : opN E cl S o = some (x, nw, fz)) : Does E.P K S.n (obj S.o) a o x nw fz := by
  obtain ⟨d, op, ty, pos, af, gg⟩ := o
  have hn0 : ∀ y, nw = [y] → K.σ S.n = none := fun y e => by simpa using hn 0 (by simp [e])
  cases op <;> simp only [opN] at h <;> simp only [Op.operands] at hr
  case move y =>
    simp only [Option.some.injEq, Prod.mk.injEq] at h; obtain ⟨rfl, rfl, rfl⟩ := h
    exact .pure (val := a.eval y) rfl (hr y (by simp))
  case assign y =>
    simp only [Option.some.injEq, Prod.mk.injEq] at h; obtain ⟨rfl, rfl, rfl⟩ := h
    exact .pure (val := a.eval y) rfl (hr y (by simp))
  case pick c y z =>
    replace h := v0_inv h; obtain ⟨h, rfl, rfl⟩ := h
    exact pick_sound c y z d ty pos af gg (hr c (by simp)) (hr y (by simp)) (hr z (by simp)) h
  case alloc t =>
    replace h := v1_inv h; obtain ⟨h, rfl⟩ := h
    have : ∃ y, nw = [y] := by unfold allocT at h; obtain ⟨z, _, h2⟩ := Option.map_eq_some_iff.1 h; exact ⟨_, (Prod.mk.inj h2).2.symm⟩
    obtain ⟨y, hy⟩ := this
    exact alloc_sound hg (hn0 y hy) t d ty pos af gg h
  case box t y =>
    replace h := v1_inv h; obtain ⟨h, rfl⟩ := h
    have : ∃ y, nw = [y] := by unfold allocT at h; obtain ⟨z, _, h2⟩ := Option.map_eq_some_iff.1 h; exact ⟨_, (Prod.mk.inj h2).2.symm⟩
    obtain ⟨y', hy'⟩ := this
    exact box_sound hg (hn0 y' hy') t y d ty pos af gg (hr y (by simp)) h
  case build t ps =>
    replace h := v0_inv h; obtain ⟨h, rfl, rfl⟩ := h
    exact build_sound t ps d ty pos af gg (fun p hp => hr p.2 (by simp; exact ⟨p.1, by simpa using hp⟩)) h
  case buildSlice t k ps =>
    have : ∃ y, nw = [y] := by
      unfold buildSliceT at h
      obtain ⟨_, _, h⟩ := Option.bind_eq_some_iff.1 h
      obtain ⟨_, _, h⟩ := Option.bind_eq_some_iff.1 h
      obtain ⟨_, _, h⟩ := Option.bind_eq_some_iff.1 h
      split at h
      · obtain ⟨_, _, h⟩ := Option.bind_eq_some_iff.1 h
        obtain ⟨_, _, h2⟩ := Option.map_eq_some_iff.1 h
        simp only [Prod.mk.injEq] at h2
        exact ⟨_, h2.2.1.symm⟩
      · simp at h
    obtain ⟨y', hy'⟩ := this
    exact buildSlice_sound hg hobj (hn0 y' hy') t k ps d ty pos af gg rfl rfl (fun p hp => hr p.2 (by simp; exact ⟨p.1, by simpa using hp⟩)) h
  case load t y =>
    replace h := v0_inv h; obtain ⟨h, rfl, rfl⟩ := h
    exact load_sound hobj t y d ty pos af gg rfl (hr y (by simp)) h
  case nilCheck y =>
    replace h := v0_inv h; obtain ⟨h, rfl, rfl⟩ := h
    exact nil_sound y d ty pos af gg (hr y (by simp)) h
  case binOp op xt y z yt =>
    replace h := v0_inv h; obtain ⟨h, rfl, rfl⟩ := h
    exact bin2_sound op xt y z yt d ty pos af gg (hr y (by simp)) (hr z (by simp)) h
  case unOp op xt y =>
    replace h := v0_inv h; obtain ⟨h, rfl, rfl⟩ := h
    exact un1_sound op xt y d ty pos af gg (hr y (by simp)) h
  case convert s t y =>
    replace h := v0_inv h; obtain ⟨h, rfl, rfl⟩ := h
    exact conv1_sound s t y d ty pos af gg (hr y (by simp)) h
  case makeFunc fn first caps =>
    replace h := v0_inv h; obtain ⟨h, rfl, rfl⟩ := h
    exact makeFunc_sound fn first caps d ty pos af gg (fun y hy => hr y (by simp [hy])) h
  case makeMap t r =>
    replace h := v1_inv h; obtain ⟨h, rfl⟩ := h
    have : ∃ y, nw = [y] := by
      unfold makeMapT at h
      split at h
      · obtain ⟨z, _, h2⟩ := Option.map_eq_some_iff.1 h; exact ⟨_, (Prod.mk.inj h2).2.symm⟩
      · simp at h
    obtain ⟨y', hy'⟩ := this
    exact makeMap_sound hg (hn0 y' hy') t r d ty pos af gg h
  case makeSlice t y z =>
    replace h := v1_inv h; obtain ⟨h, rfl⟩ := h
    have : ∃ y, nw = [y] := by
      unfold makeSliceT at h
      obtain ⟨_, _, h⟩ := Option.bind_eq_some_iff.1 h
      obtain ⟨_, _, h⟩ := Option.bind_eq_some_iff.1 h
      obtain ⟨_, _, h⟩ := Option.bind_eq_some_iff.1 h
      obtain ⟨_, _, h⟩ := Option.bind_eq_some_iff.1 h
      split at h
      · split at h
        · split at h
          · simp only [Option.some.injEq, Prod.mk.injEq] at h; exact ⟨_, h.2.symm⟩
          · simp at h
        · simp at h
      · simp at h
    obtain ⟨y', hy'⟩ := this
    exact makeSlice_sound hg hobj (hn0 y' hy') t y z d ty pos af gg rfl (hr y (by simp)) (hr z (by simp)) h
  case slice t y lo hi mx =>
    replace h := v0_inv h; obtain ⟨h, rfl, rfl⟩ := h
    exact slice_sound t y lo hi mx d ty pos af gg (hr y (by simp)) (fun z hz => hr z (by rcases hz with rfl | rfl | rfl <;> simp)) h
  case fieldAddr t y i =>
    replace h := v0_inv h; obtain ⟨h, rfl, rfl⟩ := h
    exact fieldAddr_sound t y i d ty pos af gg (hr y (by simp)) h
  case field t y i =>
    replace h := v0_inv h; obtain ⟨h, rfl, rfl⟩ := h
    exact field_sound t y i d ty pos af gg (hr y (by simp)) h
  case indexAddr t y z =>
    replace h := v0_inv h; obtain ⟨h, rfl, rfl⟩ := h
    exact indexAddr_sound t y z d ty pos af gg (hr y (by simp)) (hr z (by simp)) h
  case index t y z =>
    replace h := v0_inv h; obtain ⟨h, rfl, rfl⟩ := h
    exact index_sound t y z d ty pos af gg (hr y (by simp)) (hr z (by simp)) h
  case lookup t y z ok =>
    replace h := v0_inv h; obtain ⟨h, rfl, rfl⟩ := h
    exact lookup_sound hobj t y z ok d ty pos af gg rfl (hr y (by simp)) (hr z (by simp)) h
  case extract y i =>
    replace h := v0_inv h; obtain ⟨h, rfl, rfl⟩ := h
    exact extract_sound y i d ty pos af gg (hr y (by simp)) h
  case call c =>
    obtain ⟨callee, args, ats⟩ := c
    cases callee with
    | value f =>
      simp only at h
      replace h := v1_inv h; obtain ⟨h, rfl⟩ := h
      exact call_sound hcl hg hobj f args ats d ty pos af gg rfl rfl hn (hr f (by simp [Call.operands])) (fun z hz => hr z (by simp [Call.operands, hz])) h
    | builtin b =>
      simp only at h
      replace h := v1_inv h; obtain ⟨h, rfl⟩ := h
      exact builtin_sound hg hobj b args ats d ty pos af gg hn (fun z hz => hr z (by simp [Call.operands, hz])) h
    | invoke => simp at h
  all_goals simp at h
end
end Go.Proofs.Ytnbijiopcgfmfaa.Tev
