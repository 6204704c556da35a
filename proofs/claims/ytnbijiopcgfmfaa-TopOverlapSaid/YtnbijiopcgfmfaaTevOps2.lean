/- The simple operations. -/
import Derived.Test.YtnbijiopcgfmfaaTevOps
namespace Go.Proofs.Ytnbijiopcgfmfaa.Tev
open Go Go.RowKit
set_option linter.unusedSectionVars false
set_option linter.unusedVariables false
set_option linter.unusedSimpArgs false

section
variable {P : Program} {K : Ctx} {n : Nat} {ob : Nat → Option Ob} {a : Act}

theorem Does.pure {o : Oper} {x : T} {val : Value} (hr : (execOp a.eval o).run P K.w = .ok (.value val) K.w) (hx : RT K x val) : Does P K n ob a o x [] [] :=
  .inl ⟨val, K, hr, .same hx⟩

theorem v0_inv {r : Option T} {x : T} {nw : List Ob} {fz : List Nat} (h : v0 r = some (x, nw, fz)) : r = some x ∧ nw = [] ∧ fz = [] := by
  cases r with
  | none => simp [v0] at h
  | some y => simp [v0] at h; exact ⟨by rw [h.1], h.2.1, h.2.2⟩
theorem v1_inv {r : Option (T × List Ob)} {x : T} {nw : List Ob} {fz : List Nat} (h : v1 r = some (x, nw, fz)) : r = some (x, nw) ∧ fz = [] := by
  cases r with
  | none => simp [v1] at h
  | some y => obtain ⟨y1, y2⟩ := y; simp [v1] at h; exact ⟨by rw [h.1, h.2.1], h.2.2⟩

theorem run_value (e : Sem Value) (w : World) : (do let v ← e; Pure.pure (Next.value v) : Sem Next).run P w = (e.run P w).andThen fun v w' => .ok (.value v) w' := by
  show (Sem.bind e _).run P w = _
  rw [Sem.run_bind']; rfl

theorem run_binOp (op : BinOp) (xt : TypeId) (x y : Operand) (yt : TypeId) (d : Option Nat) (ty : TypeId) (pos : String) (af : Array Edge) (g : Option (Nat × Bool)) (w : World) {u v r : Value}
    (hu : a.eval x = u) (hv : a.eval y = v) (h : peel P (do eqGuard op xt x y u v; binOp op xt u v) = some r) : (execOp a.eval ⟨d, .binOp op xt x y yt, ty, pos, af, g⟩).run P w = .ok (.value r) w := by
  simp only [execOp]
  rw [run_value, hu, hv, peel_run _ _ h]
  rfl

section
variable {P : Program}
theorem row2_facts {t : TypeId} (h : isRow2 P t = true) : ∃ e i, P.underlying t = some (.array 2 e) ∧ P.underlying e = some (.int .i64) ∧ P.plainKey e = true ∧ P.info? e = some i ∧ P.eqGuardType P.depth t = false ∧ P.cellsOf e = 1 := by
  unfold isRow2 at h
  split at h
  · rename_i e he
    simp only [Bool.and_eq_true, Bool.not_eq_true', beq_iff_eq] at h
    obtain ⟨⟨⟨⟨h1, h2⟩, h3⟩, h4⟩, h5⟩ := h
    obtain ⟨i, hi⟩ := Option.isSome_iff_exists.1 h3
    refine ⟨e, i, he, ?_, h2, hi, h4, h5⟩
    split at h1
    · assumption
    · simp at h1
  · simp at h
theorem run_int_eq {e : TypeId} (he : P.underlying e = some (.int .i64)) (d : Nat) (a b : Int) (w : World) : (Op.equalIn (d + 1) e (.int .i64 a) (.int .i64 b)).run P w = .ok (decide (a = b)) w := by
  simp only [Op.equalIn, Sem.run_bind, run_underlying he, Result.andThen_ok, if_true]
  rfl
theorem run_row2 {t : TypeId} (h : isRow2 P t = true) (a b c d : Int) (w : World) : (Op.equal t (.agg #[.int .i64 a, .int .i64 b]) (.agg #[.int .i64 c, .int .i64 d])).run P w = .ok (decide (a = c ∧ b = d)) w := by
  obtain ⟨e, i, h1, h2, h3, h4, h5, h6⟩ := row2_facts h
  unfold Op.equal
  rw [show Op.maxDepth = 9998 + 1 + 1 from rfl, run_equalIn_array w _ _ _ h1 h4, h6]
  rw [show List.range 2 = [0, 1] from rfl]
  simp only [Op.eqItems, Sem.run_bind, Nat.zero_mul, Nat.one_mul]
  rw [run_part_plain w h3 (v := .int .i64 a) rfl]
  simp only [Result.andThen_ok]
  rw [run_part_plain w h3 (v := .int .i64 c) rfl]
  simp only [Result.andThen_ok, run_int_eq h2]
  by_cases h7 : a = c
  · subst h7
    simp only [decide_true, Bool.not_true, Bool.false_eq_true, if_false, true_and]
    rw [Sem.run_bind, run_part_plain w h3 (xs := #[.int .i64 a, .int .i64 b]) (off := 1) (v := .int .i64 b) rfl]
    simp only [Result.andThen_ok]
    rw [Sem.run_bind, run_part_plain w h3 (xs := #[.int .i64 a, .int .i64 d]) (off := 1) (v := .int .i64 d) rfl]
    simp only [Result.andThen_ok, Sem.run_bind, run_int_eq h2]
    by_cases h8 : b = d
    · simp [h8]
    · simp [h8]
  · simp [h7]
theorem guard_row2 {t : TypeId} (h : isRow2 P t = true) (op : BinOp) (x y : Operand) (xs ys : Array Value) : peel P (eqGuard op t x y (.agg xs) (.agg ys)) = some () := by
  obtain ⟨e, i, h1, h2, h3, h4, h5, h6⟩ := row2_facts h
  unfold eqGuard
  cases op <;> simp [peel, program, bind, Sem.bind, pure, h5]
theorem run_binRow {P : Program} {a : Act} {xt : TypeId} (h : isRow2 P xt = true) (op : BinOp) (x y : Operand) (yt : TypeId) (d : Option Nat) (ty : TypeId) (pos : String) (af : Array Edge) (g : Option (Nat × Bool)) (w : World) {k l m n : Int}
    (hu : a.eval x = .agg #[.int .i64 k, .int .i64 l]) (hv : a.eval y = .agg #[.int .i64 m, .int .i64 n]) {r : Bool} (hr : (op = .eql ∧ r = decide (k = m ∧ l = n)) ∨ (op = .neq ∧ r = !decide (k = m ∧ l = n))) :
    (execOp a.eval ⟨d, .binOp op xt x y yt, ty, pos, af, g⟩).run P w = .ok (.value (.bool r)) w := by
  simp only [execOp]
  rw [run_value, hu, hv]
  have e1 : (do eqGuard op xt x y (.agg #[.int .i64 k, .int .i64 l]) (.agg #[.int .i64 m, .int .i64 n]); binOp op xt (.agg #[.int .i64 k, .int .i64 l]) (.agg #[.int .i64 m, .int .i64 n]) : Sem Value).run P w = .ok (.bool r) w := by
    rw [Sem.run_bind, peel_run _ _ (guard_row2 h op x y _ _)]
    rcases hr with ⟨rfl, rfl⟩ | ⟨rfl, rfl⟩
    · show (do pure (.bool (← Op.equal xt _ _)) : Sem Value).run P w = _
      rw [Sem.run_bind, run_row2 h]; rfl
    · show (do pure (.bool (!(← Op.equal xt _ _))) : Sem Value).run P w = _
      rw [Sem.run_bind, run_row2 h]; rfl
  rw [e1]; rfl
end
theorem bin2_sound (op : BinOp) (xt : TypeId) (x y : Operand) (yt : TypeId) (d : Option Nat) (ty : TypeId) (pos : String) (af : Array Edge) (g : Option (Nat × Bool)) {S : St} {z : T}
    (hx : RT K (S.ev x) (a.eval x)) (hy : RT K (S.ev y) (a.eval y)) (h : bin2 P op xt x y (S.ev x) (S.ev y) = some z) : Does P K n ob a ⟨d, .binOp op xt x y yt, ty, pos, af, g⟩ z [] [] := by
  unfold bin2 at h
  split at h
  · rename_i u v e1 e2
    rw [e1] at hx; rw [e2] at hy
    obtain ⟨r, h1, h2⟩ := Option.bind_eq_some_iff.1 h
    exact .pure (run_binOp op xt x y yt d ty pos af g _ (RT_v hx) (RT_v hy) h1) (RT_ofV h2)
  · rename_i k l m n e1 e2
    rw [e1] at hx; rw [e2] at hy
    simp only [RT, RTs, RC] at hx hy
    obtain ⟨_, hu, u1, _, rfl, r1, u2, _, rfl, r2, rfl⟩ := hx
    obtain ⟨_, hv, u3, _, rfl, r3, u4, _, rfl, r4, rfl⟩ := hy
    obtain rfl := r1.1
    obtain rfl := r2.1
    obtain rfl := r3.1
    obtain rfl := r4.1
    unfold cmp2 at h
    split at h
    · rename_i hrow
      split at h
      · obtain rfl := Option.some.inj h
        exact .pure (run_binRow hrow _ x y yt d ty pos af g _ hu hv (.inl ⟨rfl, rfl⟩)) (RT_ofV rfl)
      · obtain rfl := Option.some.inj h
        exact .pure (run_binRow hrow _ x y yt d ty pos af g _ hu hv (.inr ⟨rfl, rfl⟩)) (RT_ofV rfl)
      · simp at h
    · simp at h
  · simp at h

theorem un1_sound (op : UnOp) (xt : TypeId) (x : Operand) (d : Option Nat) (ty : TypeId) (pos : String) (af : Array Edge) (g : Option (Nat × Bool)) {S : St} {z : T}
    (hx : RT K (S.ev x) (a.eval x)) (h : un1 P op (S.ev x) = some z) : Does P K n ob a ⟨d, .unOp op xt x, ty, pos, af, g⟩ z [] [] := by
  unfold un1 at h
  split at h
  · rename_i u e1
    rw [e1] at hx
    obtain ⟨r, h1, h2⟩ := Option.bind_eq_some_iff.1 h
    refine .pure (val := r) ?_ (RT_ofV h2)
    simp only [execOp]
    rw [run_value, RT_v hx, peel_run _ _ h1]; rfl
  · simp at h
theorem conv1_sound (s t : TypeId) (x : Operand) (d : Option Nat) (ty : TypeId) (pos : String) (af : Array Edge) (g : Option (Nat × Bool)) {S : St} {z : T}
    (hx : RT K (S.ev x) (a.eval x)) (h : conv1 P s t (S.ev x) = some z) : Does P K n ob a ⟨d, .convert s t x, ty, pos, af, g⟩ z [] [] := by
  unfold conv1 at h
  split at h
  · rename_i u e1
    rw [e1] at hx
    obtain ⟨r, h1, h2⟩ := Option.bind_eq_some_iff.1 h
    refine .pure (val := r) ?_ (RT_ofV h2)
    simp only [execOp]
    rw [run_value, RT_v hx, peel_run _ _ h1]; rfl
  · simp at h
theorem pick_sound (c x y : Operand) (d : Option Nat) (ty : TypeId) (pos : String) (af : Array Edge) (g : Option (Nat × Bool)) {S : St} {z : T}
    (hc : RT K (S.ev c) (a.eval c)) (hx : RT K (S.ev x) (a.eval x)) (hy : RT K (S.ev y) (a.eval y)) (h : pickT (S.ev c) (S.ev x) (S.ev y) = some z) : Does P K n ob a ⟨d, .pick c x y, ty, pos, af, g⟩ z [] [] := by
  unfold pickT at h
  split at h
  · rename_i q e1
    rw [e1] at hc
    have hc' := RT_v hc
    cases q with
    | true =>
      simp at h; subst h
      refine .pure (val := a.eval x) ?_ hx
      simp [execOp, hc', asBool, bind, Sem.bind, Pure.pure, Sem.run]
    | false =>
      simp at h; subst h
      refine .pure (val := a.eval y) ?_ hy
      simp [execOp, hc', asBool, bind, Sem.bind, Pure.pure, Sem.run]
  · simp at h
theorem nil_sound (x : Operand) (d : Option Nat) (ty : TypeId) (pos : String) (af : Array Edge) (g : Option (Nat × Bool)) {S : St} {z : T}
    (hx : RT K (S.ev x) (a.eval x)) (h : nilT (S.ev x) = some z) : Does P K n ob a ⟨d, .nilCheck x, ty, pos, af, g⟩ z [] [] := by
  have key : ∀ p, a.eval x = .pointer (some p) → Does P K n ob a ⟨d, .nilCheck x, ty, pos, af, g⟩ z [] [] := fun p e => by
    refine .pure (val := a.eval x) ?_ ?_
    · simp [execOp, e, Pure.pure, Sem.run]
    · unfold nilT at h
      split at h <;> first | (obtain rfl := Option.some.inj h; rename_i e1; rw [e1] at hx; exact hx) | (simp at h)
  unfold nilT at h
  split at h
  · rename_i e1; rw [e1] at hx; simp only [RT] at hx; obtain ⟨b, sh, _, e⟩ := hx; exact key _ e
  · rename_i e1; rw [e1] at hx; simp only [RT] at hx; obtain ⟨b, sh, e, _⟩ := hx; exact key _ e
  · rename_i e1; rw [e1] at hx; simp only [RT] at hx; obtain ⟨b, e, _⟩ := hx; exact key _ e
  · simp at h
theorem extract_sound (x : Operand) (i : Nat) (d : Option Nat) (ty : TypeId) (pos : String) (af : Array Edge) (g : Option (Nat × Bool)) {S : St} {z : T}
    (hx : RT K (S.ev x) (a.eval x)) (h : extractT (S.ev x) i = some z) : Does P K n ob a ⟨d, .extract x i, ty, pos, af, g⟩ z [] [] := by
  unfold extractT at h
  split at h
  · rename_i l e1
    rw [e1] at hx; simp only [RT] at hx
    obtain ⟨cs, e, hl⟩ := hx
    obtain ⟨u, hu, r⟩ := RTs_get _ _ _ _ hl h
    refine .pure (val := u) ?_ r
    simp [execOp, e, Instr.extract, hu, bind, Sem.bind, Pure.pure, Sem.run]
  · simp at h
theorem makeFunc_sound (fn : Fn) (first caps : Array Operand) (d : Option Nat) (ty : TypeId) (pos : String) (af : Array Edge) (g : Option (Nat × Bool)) {S : St} {z : T}
    (hx : ∀ y ∈ caps, RT K (S.ev y) (a.eval y)) (h : makeFuncT fn first (caps.toList.map S.ev) = some z) : Does P K n ob a ⟨d, .makeFunc fn first caps, ty, pos, af, g⟩ z [] [] := by
  unfold makeFuncT at h
  split at h
  · split at h
    · rename_i f hf
      obtain rfl := Option.some.inj h
      have hf' : first = #[] := Array.eq_empty_of_size_eq_zero hf
      subst hf'
      refine .pure (val := .func (.func f) #[] (caps.map a.eval)) ?_ ?_
      · simp [execOp, Instr.makeFunc, bind, Sem.bind, Pure.pure, Sem.run]
      · simp only [RT]
        refine ⟨caps.toList.map a.eval, by rw [← Array.toList_map, Array.toArray_toList], ?_⟩
        have : ∀ l : List Operand, (∀ y ∈ l, RT K (S.ev y) (a.eval y)) → RTs K (l.map S.ev) (l.map a.eval) := by
          intro l
          induction l with
          | nil => intro _; simp only [List.map_nil, RTs]
          | cons y l ih =>
            intro hl
            simp only [List.map_cons, RTs]
            exact ⟨_, _, rfl, hl y (by simp), ih fun z hz => hl z (by simp [hz])⟩
        exact this _ fun y hy => hx y (by simpa using hy)
    · simp at h
  · simp at h

/-! Types. -/
theorem szOf_run {t : TypeId} {sz : Nat} (h : szOf P t = some sz) (w : World) : (sizeOf t).run P w = .ok sz w := by
  unfold szOf at h
  obtain ⟨i, h1, h2⟩ := Option.map_eq_some_iff.1 h
  simp [sizeOf, typeInfo, program, h1, h2, bind, Sem.bind, Pure.pure, Sem.run]
theorem bytes_run {t : TypeId} {sz : Nat} (h : bytesOf P t = some sz) : ∃ i, P.info? t = some i ∧ i.bytes = sz := by
  unfold bytesOf at h
  exact Option.map_eq_some_iff.1 h
theorem info_run {t : TypeId} {i : TypeInfo} (h : P.info? t = some i) (w : World) : (typeInfo t).run P w = .ok i w := by
  simp [typeInfo, program, h, bind, Sem.bind, Pure.pure, Sem.run]
theorem under_run {t : TypeId} {d : TypeDesc} (h : P.underlying t = some d) (w : World) : (underlying t).run P w = .ok d w := by
  simp [underlying, program, h, bind, Sem.bind, Pure.pure, Sem.run]
theorem agg_run {t : TypeId} {ag : Bool} (h : aggOf P t = some ag) (w : World) : (isAgg t).run P w = .ok ag w := by
  unfold aggOf at h
  cases hu : P.underlying t with
  | none => simp [hu] at h
  | some d =>
    simp only [hu] at h
    show (Sem.bind (underlying t) _).run P w = _
    rw [Sem.run_bind', under_run hu]
    cases d <;> simp_all [Result.andThen, Pure.pure, Sem.run]
theorem zero_run {t : TypeId} {z : List T} (h : zeroOf P t = some z) : ∃ v, (∀ w, (zeroValue t).run P w = .ok v w) ∧ (∀ K, RTs K z v.cells.toList) ∧ z = v.cells.toList.map cellT := by
  unfold zeroOf at h
  obtain ⟨i, h1, h2⟩ := Option.bind_eq_some_iff.1 h
  obtain ⟨v, h3, h4⟩ := Option.map_eq_some_iff.1 h2
  refine ⟨v, fun w => ?_, fun K => by rw [← h4]; exact RTs_cellT K _, h4.symm⟩
  show (Sem.bind (typeInfo t) _).run P w = _
  rw [Sem.run_bind', info_run h1]
  simp [Result.andThen, h3, Pure.pure, Sem.run]
theorem run_newVar (t : TypeId) (v : Value) (w : World) : (newVar t v).run P w = .ok ⟨w.heap.size, 0, none⟩ (w.alloc (.cells v.cells t)) := by
  simp [newVar, newRow, newObj, bind, Sem.bind, Pure.pure, Sem.run, World.alloc_eq]

theorem alloc_sound (hg : Good K) (hn : K.σ n = none) (t : TypeId) (d : Option Nat) (ty : TypeId) (pos : String) (af : Array Edge) (g : Option (Nat × Bool)) {x : T} {nw : List Ob}
    (h : allocT n (zeroOf P t) = some (x, nw)) : Does P K n ob a ⟨d, .alloc t, ty, pos, af, g⟩ x nw [] := by
  unfold allocT at h
  obtain ⟨z, h1, h2⟩ := Option.map_eq_some_iff.1 h
  obtain ⟨v, h3, h4, _⟩ := zero_run h1
  obtain ⟨rfl, rfl⟩ := Prod.mk.inj h2
  refine .inl ⟨_, _, ?_, Step.box hg hn (cs := v.cells) t (h4 K)⟩
  simp only [execOp]
  rw [run_value]
  show ((Sem.bind (zeroValue t) _).run P K.w).andThen _ = _
  rw [Sem.run_bind', h3]
  show ((Sem.bind (newVar t v) _).run P K.w).andThen _ = _
  rw [Sem.run_bind', run_newVar]
  rfl
theorem box_sound (hg : Good K) (hn : K.σ n = none) (t : TypeId) (y : Operand) (d : Option Nat) (ty : TypeId) (pos : String) (af : Array Edge) (g : Option (Nat × Bool)) {S : St} {x : T} {nw : List Ob}
    (hy : RT K (S.ev y) (a.eval y)) (h : allocT n (cellsOf (S.ev y)) = some (x, nw)) : Does P K n ob a ⟨d, .box t y, ty, pos, af, g⟩ x nw [] := by
  unfold allocT at h
  obtain ⟨z, h1, h2⟩ := Option.map_eq_some_iff.1 h
  obtain ⟨rfl, rfl⟩ := Prod.mk.inj h2
  refine .inl ⟨_, _, ?_, Step.box hg hn (cs := (a.eval y).cells) t (cellsOf_sound h1 hy)⟩
  simp only [execOp]
  rw [run_value]
  show ((Sem.bind (newVar t _) _).run P K.w).andThen _ = _
  rw [Sem.run_bind', run_newVar]
  rfl

/-! Parts. -/
theorem partT_sound {t : TypeId} {l : List T} {us : List Value} {off : Nat} {x : T} (hl : RTs K l us) (h : partT P t l off = some x) :
    ∃ u, RT K x u ∧ ∀ w, (part t us.toArray off).run P w = .ok u w := by
  unfold partT at h
  obtain ⟨ag, h1, h⟩ := Option.bind_eq_some_iff.1 h
  obtain ⟨sz, h2, h⟩ := Option.bind_eq_some_iff.1 h
  have hlen := RTs_length _ _ hl
  cases ag with
  | true =>
    simp only [if_true] at h
    split at h
    · rename_i hle
      obtain rfl := Option.some.inj h
      refine ⟨.agg ((us.drop off).take sz).toArray, ?_, fun w => ?_⟩
      · simp only [RT]; exact ⟨_, rfl, RTs_take (RTs_drop hl _) _⟩
      · show (Sem.bind (isAgg t) _).run P w = _
        rw [Sem.run_bind', agg_run h1]
        show (Sem.bind (sizeOf t) _).run P w = _
        rw [Sem.run_bind', szOf_run h2]
        simp only [Result.andThen, Pure.pure, Sem.run, Result.ok.injEq, Value.agg.injEq, and_true]
        rw [List.extract_toArray]
        congr 1
        rw [List.take_drop]
        simp [List.extract_eq_take_drop, List.take_drop]
    · simp at h
  | false =>
    simp only [Bool.false_eq_true, if_false] at h
    obtain ⟨u, hu, r⟩ := RTs_get _ _ _ _ hl h
    refine ⟨u, r, fun w => ?_⟩
    show (Sem.bind (isAgg t) _).run P w = _
    rw [Sem.run_bind', agg_run h1]
    simp [Result.andThen, hu, Pure.pure, Sem.run]
theorem fieldOf_run {t : TypeId} {i : Nat} {p : Nat × TypeId} (h : fieldOf P t i = some p) : ∃ (fs : Array Field) (f : Field), P.underlying t = some (.struct fs) ∧ fs[i]? = some f ∧ f.offset = p.1 ∧ f.type = p.2 := by
  unfold fieldOf at h
  split at h
  · rename_i fs hu
    obtain ⟨f, h1, h2⟩ := Option.map_eq_some_iff.1 h
    exact ⟨fs, f, hu, h1, by rw [← h2], by rw [← h2]⟩
  · simp at h
theorem field_sound (t : TypeId) (y : Operand) (i : Nat) (d : Option Nat) (ty : TypeId) (pos : String) (af : Array Edge) (g : Option (Nat × Bool)) {S : St} {x : T}
    (hy : RT K (S.ev y) (a.eval y)) (h : fieldT P t i (S.ev y) = some x) : Does P K n ob a ⟨d, .field t y i, ty, pos, af, g⟩ x [] [] := by
  unfold fieldT at h
  obtain ⟨p, h1, h⟩ := Option.bind_eq_some_iff.1 h
  obtain ⟨fs, f, hu, hf, e1, e2⟩ := fieldOf_run h1
  split at h
  · rename_i l e
    rw [e] at hy; simp only [RT] at hy
    obtain ⟨cs, e3, hl⟩ := hy
    obtain ⟨u, r, hr⟩ := partT_sound hl h
    refine .pure (val := u) ?_ r
    simp only [execOp]
    rw [run_value]
    show ((Sem.bind (underlying t) _).run P K.w).andThen _ = _
    rw [Sem.run_bind', under_run hu]
    simp only [Result.andThen, hf, e3, asAgg, e1, e2]
    show ((Sem.bind (Pure.pure _) _).run P K.w).andThen _ = _
    simp only [Pure.pure, Sem.bind, hr, Result.andThen, Sem.run]
  · simp at h
theorem Addr.add0 (b o k : Nat) : (⟨b, o, none⟩ : Addr).add k = ⟨b, o + k, none⟩ := by unfold Addr.add; split <;> simp_all
theorem run_fieldAt {t : TypeId} {i : Nat} {p : Nat × TypeId} {sz : Nat} (h : fieldOf P t i = some p) (hs : szOf P p.2 = some (sz + 1)) (b o : Nat) (w : World) :
    (Instr.fieldAt t (.pointer (some ⟨b, o, none⟩)) i).run P w = .ok (.pointer (some ⟨b, o + p.1, none⟩)) w := by
  obtain ⟨fs, f, hu, hf, e1, e2⟩ := fieldOf_run h
  show (Sem.bind (underlying t) _).run P w = _
  rw [Sem.run_bind', under_run hu]
  simp only [Result.andThen, hf, Instr.sureAddr]
  show (Sem.bind (Pure.pure _) _).run P w = _
  simp only [Pure.pure, Sem.bind]
  show (Sem.bind (fieldPlace _ f) _).run P w = _
  rw [Sem.run_bind']
  have : (fieldPlace ⟨b, o, none⟩ f).run P w = .ok ⟨b, o + p.1, none⟩ w := by
    show (Sem.bind (sizeOf f.type) _).run P w = _
    rw [Sem.run_bind', e2, szOf_run hs]
    simp [Result.andThen, Pure.pure, Sem.run, Addr.add0, e1]
  rw [this]
  rfl
theorem fieldAddr_sound (t : TypeId) (y : Operand) (i : Nat) (d : Option Nat) (ty : TypeId) (pos : String) (af : Array Edge) (g : Option (Nat × Bool)) {S : St} {x : T}
    (hy : RT K (S.ev y) (a.eval y)) (h : fieldAddrT P t i (S.ev y) = some x) : Does P K n ob a ⟨d, .fieldAddr t y i, ty, pos, af, g⟩ x [] [] := by
  unfold fieldAddrT at h
  obtain ⟨p, h1, h⟩ := Option.bind_eq_some_iff.1 h
  obtain ⟨sz, h2, h⟩ := Option.bind_eq_some_iff.1 h
  have key : ∀ b o k, sz = k + 1 → a.eval y = .pointer (some ⟨b, o, none⟩) → RT K x (.pointer (some ⟨b, o + p.1, none⟩)) → Does P K n ob a ⟨d, .fieldAddr t y i, ty, pos, af, g⟩ x [] [] := by
    intro b o k e1 e2 r
    subst e1
    refine .pure ?_ r
    simp only [execOp]
    rw [run_value, e2, run_fieldAt h1 h2]
    rfl
  split at h
  · simp at h
  · rename_i k o off e
    obtain rfl := Option.some.inj h
    rw [e] at hy; simp only [RT] at hy
    obtain ⟨b, sh, hs, e1⟩ := hy
    exact key _ _ k rfl e1 (by simp only [RT]; exact ⟨b, sh, hs, by rw [Nat.add_assoc]⟩)
  · rename_i k q l off e
    obtain rfl := Option.some.inj h
    rw [e] at hy; simp only [RT] at hy
    obtain ⟨b, s, e1, hb, hl⟩ := hy
    exact key _ _ k rfl e1 (by simp only [RT]; exact ⟨b, s, by rw [Nat.add_assoc], hb, hl⟩)
  · rename_i k l off e
    obtain rfl := Option.some.inj h
    rw [e] at hy; simp only [RT] at hy
    obtain ⟨b, e1, hb, hl⟩ := hy
    exact key _ _ k rfl e1 (by simp only [RT]; exact ⟨b, rfl, hb, hl⟩)
  · simp at h
theorem asI_sound {x : T} {k : Int} {u : Value} (h : asI x = some k) (r : RT K x u) : ∃ kk, u = .int kk k := by
  unfold asI at h
  split at h
  · obtain rfl := Option.some.inj h; exact ⟨_, RT_v r⟩
  · simp at h
theorem elemOf_run {t e : TypeId} (h : elemOf P t = some e) : P.underlying t = some (.slice e) := by
  unfold elemOf at h
  split at h
  · rename_i hu; obtain rfl := Option.some.inj h; exact hu
  · simp at h
theorem arrOf_run {t : TypeId} {p : Nat × TypeId} (h : arrOf P t = some p) : P.underlying t = some (.array p.1 p.2) := by
  unfold arrOf at h
  split at h
  · rename_i hu; obtain rfl := Option.some.inj h; exact hu
  · simp at h
theorem run_indexAt_slice {t e : TypeId} {sz : Nat} (he : elemOf P t = some e) (hs : szOf P e = some sz) (b o len c : Nat) (kk : IntKind) (k : Int) (h0 : 0 ≤ k) (h1 : k < len) (w : World) :
    (Instr.indexAt t (.slice (some ⟨b, o, none⟩) len c) (.int kk k)).run P w = .ok (.pointer (some ⟨b, o + k.toNat * sz, none⟩)) w := by
  simp only [Instr.indexAt, asIntOf, bind, Pure.pure, Sem.bind, Sem.run_bind', under_run (elemOf_run he), Result.andThen, Sem.run, if_pos (And.intro h0 h1), szOf_run hs, Addr.add0]
theorem run_indexAt_arr {t : TypeId} {p : Nat × TypeId} {sz : Nat} (he : arrOf P t = some p) (hs : szOf P p.2 = some sz) (b o : Nat) (kk : IntKind) (k : Int) (h0 : 0 ≤ k) (h1 : k < p.1) (w : World) :
    (Instr.indexAt t (.pointer (some ⟨b, o, none⟩)) (.int kk k)).run P w = .ok (.pointer (some ⟨b, o + k.toNat * sz, none⟩)) w := by
  simp only [Instr.indexAt, asIntOf, bind, Pure.pure, Sem.bind, Sem.run_bind', under_run (arrOf_run he), Instr.sureAddr, Result.andThen, Sem.run, if_pos (And.intro h0 h1), szOf_run hs, Addr.add0]
theorem indexAddr_sound (t : TypeId) (y z : Operand) (d : Option Nat) (ty : TypeId) (pos : String) (af : Array Edge) (g : Option (Nat × Bool)) {S : St} {x : T}
    (hy : RT K (S.ev y) (a.eval y)) (hz : RT K (S.ev z) (a.eval z)) (h : indexAddrT P t (S.ev y) (S.ev z) = some x) : Does P K n ob a ⟨d, .indexAddr t y z, ty, pos, af, g⟩ x [] [] := by
  unfold indexAddrT at h
  obtain ⟨k, hk, h⟩ := Option.bind_eq_some_iff.1 h
  obtain ⟨kk, ek⟩ := asI_sound hk hz
  have key : ∀ v, (Instr.indexAt t (a.eval y) (a.eval z)).run P K.w = .ok v K.w → RT K x v → Does P K n ob a ⟨d, .indexAddr t y z, ty, pos, af, g⟩ x [] [] := by
    intro v e r
    refine .pure ?_ r
    simp only [execOp]
    rw [run_value, e]; rfl
  split at h
  · rename_i cap n l e
    obtain ⟨e1, h1, h⟩ := Option.bind_eq_some_iff.1 h
    obtain ⟨sz, h2, h⟩ := Option.bind_eq_some_iff.1 h
    split at h
    · rename_i hb
      obtain rfl := Option.some.inj h
      rw [e] at hy; simp only [RT, RC] at hy
      obtain ⟨A, c, e2, _, _, h4⟩ := hy
      rcases h4 with ⟨rfl, _⟩ | ⟨b, o, rfl, hF, hl⟩
      · exact absurd hb.2 (by omega)
      · exact key _ (by rw [e2, ek]; exact run_indexAt_slice h1 h2 b o n c kk k hb.1 hb.2 _) (by simp only [RT]; exact ⟨b, o, rfl, by simpa using hF, hl⟩)
    · simp at h
  · rename_i cap n l e
    obtain ⟨e1, h1, h⟩ := Option.bind_eq_some_iff.1 h
    obtain ⟨sz, h2, h⟩ := Option.bind_eq_some_iff.1 h
    split at h
    · rename_i hb
      obtain rfl := Option.some.inj h
      rw [e] at hy; simp only [RT] at hy
      obtain ⟨A, c, e2, _, _, h4⟩ := hy
      rcases h4 with ⟨rfl, _⟩ | ⟨b, o, rfl, hF, hl⟩
      · exact absurd hb.2 (by omega)
      · exact key _ (by rw [e2, ek]; exact run_indexAt_slice h1 h2 b o n c kk k hb.1 hb.2 _) (by simp only [RT]; exact ⟨b, o, rfl, by simpa using hF, hl⟩)
    · simp at h
  · rename_i o off n sz' cap e
    obtain ⟨e1, h1, h⟩ := Option.bind_eq_some_iff.1 h
    obtain ⟨sz, h2, h⟩ := Option.bind_eq_some_iff.1 h
    split at h
    · rename_i hb
      obtain rfl := Option.some.inj h
      rw [e] at hy; simp only [RT] at hy
      obtain ⟨A, c, e2, hnc, _, h4⟩ := hy
      rcases h4 with ⟨rfl, _⟩ | ⟨b, sh, hs, rfl, _⟩
      · exact absurd hb.2 (by omega)
      · exact key _ (by rw [e2, ek]; exact run_indexAt_slice h1 h2 b _ n c kk k hb.1 hb.2 _) (by simp only [RT]; exact ⟨b, sh, hs, by rw [Nat.add_assoc]⟩)
    · simp at h
  · rename_i o off e
    obtain ⟨e1, h1, h⟩ := Option.bind_eq_some_iff.1 h
    obtain ⟨sz, h2, h⟩ := Option.bind_eq_some_iff.1 h
    split at h
    · rename_i hb
      obtain rfl := Option.some.inj h
      rw [e] at hy; simp only [RT] at hy
      obtain ⟨b, sh, hs, e2⟩ := hy
      exact key _ (by rw [e2, ek]; exact run_indexAt_arr h1 h2 b _ kk k hb.1 hb.2 _) (by simp only [RT]; exact ⟨b, sh, hs, by rw [Nat.add_assoc]⟩)
    · simp at h
  · rename_i q l off e
    obtain ⟨e1, h1, h⟩ := Option.bind_eq_some_iff.1 h
    obtain ⟨sz, h2, h⟩ := Option.bind_eq_some_iff.1 h
    split at h
    · rename_i hb
      obtain rfl := Option.some.inj h
      rw [e] at hy; simp only [RT] at hy
      obtain ⟨b, s, e2, hF, hl⟩ := hy
      exact key _ (by rw [e2, ek]; exact run_indexAt_arr h1 h2 b _ kk k hb.1 hb.2 _) (by simp only [RT]; exact ⟨b, s, by rw [Nat.add_assoc], hF, hl⟩)
    · simp at h
  · rename_i l off e
    obtain ⟨e1, h1, h⟩ := Option.bind_eq_some_iff.1 h
    obtain ⟨sz, h2, h⟩ := Option.bind_eq_some_iff.1 h
    split at h
    · rename_i hb
      obtain rfl := Option.some.inj h
      rw [e] at hy; simp only [RT] at hy
      obtain ⟨b, e2, hF, hl⟩ := hy
      exact key _ (by rw [e2, ek]; exact run_indexAt_arr h1 h2 b _ kk k hb.1 hb.2 _) (by simp only [RT]; exact ⟨b, rfl, hF, hl⟩)
    · simp at h
  · simp at h
theorem index_sound (t : TypeId) (y z : Operand) (d : Option Nat) (ty : TypeId) (pos : String) (af : Array Edge) (g : Option (Nat × Bool)) {S : St} {x : T}
    (hy : RT K (S.ev y) (a.eval y)) (hz : RT K (S.ev z) (a.eval z)) (h : indexT P t (S.ev y) (S.ev z) = some x) : Does P K n ob a ⟨d, .index t y z, ty, pos, af, g⟩ x [] [] := by
  unfold indexT at h
  split at h
  · rename_i l e
    obtain ⟨k, hk, h⟩ := Option.bind_eq_some_iff.1 h
    obtain ⟨kk, ek⟩ := asI_sound hk hz
    obtain ⟨p, h1, h⟩ := Option.bind_eq_some_iff.1 h
    obtain ⟨sz, h2, h⟩ := Option.bind_eq_some_iff.1 h
    split at h
    · rename_i hb
      rw [e] at hy; simp only [RT] at hy
      obtain ⟨cs, e2, hl⟩ := hy
      obtain ⟨u, r, hr⟩ := partT_sound hl h
      refine .pure (val := u) ?_ r
      simp only [execOp]
      rw [run_value, e2, ek]
      simp only [Instr.index, asIntOf, bind, Pure.pure, Sem.bind, Sem.run_bind', under_run (arrOf_run h1), Result.andThen, Sem.run, if_pos hb, szOf_run h2, hr]
    · simp at h
  · simp at h

/-! Reading. -/
theorem run_load (w : World) (b o : Nat) (u : Value) (h : w.cell? ⟨b, o, none⟩ = some u) : (load ⟨b, o, none⟩).run P w = .ok u w := by
  simp [load, Sem.run, h]
theorem run_loadVar_agg {t : TypeId} {sz : Nat} (ha : aggOf P t = some true) (hs : szOf P t = some sz) (w : World) (b o : Nat) (us : List Value) (hl : us.length = sz) (h : ∀ j u, us[j]? = some u → w.cell? ⟨b, o + j, none⟩ = some u) :
    (loadVar t ⟨b, o, none⟩).run P w = .ok (.agg us.toArray) w := by
  have hr : (loadCells ⟨b, o, none⟩ us.length).run P w = .ok us.toArray w := run_loadCells_list (P := P) w ⟨b, o, none⟩ us (fun j v hv => by rw [Addr.add0]; exact h j v hv)
  simp only [loadVar, bind, Sem.run_bind', agg_run ha, Result.andThen, if_true, szOf_run hs, ← hl, hr, Pure.pure, Sem.run]
theorem run_loadVar_one {t : TypeId} (ha : aggOf P t = some false) (w : World) (b o : Nat) (u : Value) (h : w.cell? ⟨b, o, none⟩ = some u) :
    (loadVar t ⟨b, o, none⟩).run P w = .ok u w := by
  simp only [loadVar, bind, Sem.run_bind', agg_run ha, Result.andThen, Bool.false_eq_true, if_false, run_load w b o u h]
theorem mapO_get {α β : Type} {f : α → Option β} : ∀ {l : List α} {r : List β}, mapO f l = some r → r.length = l.length ∧ ∀ (i : Nat) (x : α), l[i]? = some x → ∃ y, r[i]? = some y ∧ f x = some y
  | [], r, h => by simp [mapO] at h; subst h; simp
  | x :: l, r, h => by
    simp only [mapO] at h
    obtain ⟨y, h1, h⟩ := Option.bind_eq_some_iff.1 h
    obtain ⟨z, h2, rfl⟩ := Option.map_eq_some_iff.1 h
    obtain ⟨h3, h4⟩ := mapO_get h2
    refine ⟨by simp [h3], fun i x' hi => ?_⟩
    cases i with
    | zero => simp at hi; subst hi; exact ⟨y, rfl, h1⟩
    | succ i => simpa using h4 i x' (by simpa using hi)
/-- A load off any row of readable cells. -/
theorem load_core (hobj : ∀ o x s, ob o = some x → K.σ o = some s → RO K s x) (t : TypeId) {S : St} (hob : ob = obj S.o) {x y : T} {uy : Value}
    (hy : RT K y uy) (h : loadT P S t y = some x) : ∃ b o v, uy = .pointer (some ⟨b, o, none⟩) ∧ (loadVar t ⟨b, o, none⟩).run P K.w = .ok v K.w ∧ RT K x v := by
  unfold loadT at h
  obtain ⟨ag, h1, h⟩ := Option.bind_eq_some_iff.1 h
  obtain ⟨sz, h2, h⟩ := Option.bind_eq_some_iff.1 h
  have key : ∀ (b s off : Nat) (l : Nat → Option T), uy = .pointer (some ⟨b, s + off, none⟩) → (∀ j x, l j = some x → ∃ u, K.w.cell? ⟨b, s + j, none⟩ = some u ∧ RT K x u) →
      pick1 ag sz l off = some x → ∃ b o v, uy = .pointer (some ⟨b, o, none⟩) ∧ (loadVar t ⟨b, o, none⟩).run P K.w = .ok v K.w ∧ RT K x v := by
    intro b s off l e hl h
    unfold pick1 at h
    have run : ∀ v, (loadVar t ⟨b, s + off, none⟩).run P K.w = .ok v K.w → RT K x v → ∃ b o v, uy = .pointer (some ⟨b, o, none⟩) ∧ (loadVar t ⟨b, o, none⟩).run P K.w = .ok v K.w ∧ RT K x v := fun v hv r => ⟨b, s + off, v, e, hv, r⟩
    cases ag with
    | true =>
      simp only [if_true] at h
      obtain ⟨r, h3, rfl⟩ := Option.map_eq_some_iff.1 h
      obtain ⟨h4, h5⟩ := mapO_get h3
      simp at h4
      have hcell : ∀ j, j < sz → ∃ u, K.w.cell? ⟨b, s + off + j, none⟩ = some u ∧ ∃ x, r[j]? = some x ∧ RT K x u := fun j hj => by
        obtain ⟨x, hx, hf⟩ := h5 j j (by simp [hj])
        obtain ⟨u, hu, hr⟩ := hl _ _ hf
        exact ⟨u, by rw [← hu, Nat.add_assoc], x, hx, hr⟩
      let us : List Value := (List.range sz).map fun j => (K.w.cell? ⟨b, s + off + j, none⟩).getD undef
      have hus : ∀ j u, us[j]? = some u → K.w.cell? ⟨b, s + off + j, none⟩ = some u ∧ j < sz := fun j u hj => by
        have hlt : j < sz := by
          rcases Nat.lt_or_ge j sz with h' | h'
          · exact h'
          · simp [us, h'] at hj
        obtain ⟨u', hu', _⟩ := hcell j hlt
        simp [us, hlt, hu'] at hj
        exact ⟨by rw [hu', hj], hlt⟩
      refine run (.agg us.toArray) (run_loadVar_agg h1 h2 _ b (s + off) us (by simp [us]) fun j u hj => (hus j u hj).1) ?_
      simp only [RT]
      refine ⟨us, rfl, RTs_mk _ _ (by simp [us, h4]) fun j x u hx hu => ?_⟩
      obtain ⟨hc, hlt⟩ := hus j u hu
      obtain ⟨u', hu', x', hx', hr⟩ := hcell j hlt
      rw [hc] at hu'; obtain rfl := Option.some.inj hu'
      rw [hx] at hx'; obtain rfl := Option.some.inj hx'
      exact hr
    | false =>
      simp only [Bool.false_eq_true, if_false] at h
      obtain ⟨u, hu, hr⟩ := hl _ _ h
      exact run u (run_loadVar_one h1 _ _ _ _ hu) hr
  have row : ∀ (b s off : Nat) (l : List C), uy = .pointer (some ⟨b, s + off, none⟩) → RCs K.w K.F b s l →
      pick1 ag sz (fun j => (l[j]?).map T.c) off = some x → ∃ b o v, uy = .pointer (some ⟨b, o, none⟩) ∧ (loadVar t ⟨b, o, none⟩).run P K.w = .ok v K.w ∧ RT K x v := by
    intro b s off l e hl h
    refine key b s off (fun j => (l[j]?).map .c) e (fun j x hx => ?_) h
    obtain ⟨c, hc, rfl⟩ := Option.map_eq_some_iff.1 hx
    obtain ⟨u, hu, r⟩ := RCs_get _ _ _ _ hl hc
    exact ⟨u, hu, by simpa only [RT] using r⟩
  split at h
  · simp only [RT] at hy
    obtain ⟨b, sh, hs, e2⟩ := hy
    split at h
    · rename_i l hl
      have ho := hobj _ _ _ (by rw [hob]; exact hl) hs
      simp only [RO] at ho
      obtain ⟨b', cs, et, e3, _, _, hb, hr⟩ := ho
      obtain ⟨rfl, rfl⟩ := Prod.mk.inj (Option.some.inj e3)
      refine key b 0 _ (fun j => l[j]?) (by rw [e2]) (fun j x hx => ?_) h
      obtain ⟨u, hu, r⟩ := RTs_get _ _ _ _ hr hx
      exact ⟨u, by simpa [World.cell?, hb] using hu, r⟩
    · rename_i l gg ge hl
      have ho := hobj _ _ _ (by rw [hob]; exact hl) hs
      simp only [RO] at ho
      rcases ho with ⟨h6, _⟩ | ⟨b', sh', cs, et, e3, _, _, hb, hr⟩
      · simp at h6
      · obtain ⟨rfl, rfl⟩ := Prod.mk.inj (Option.some.inj e3)
        exact row b sh _ l e2 hr h
    · rename_i l hl
      have ho := hobj _ _ _ (by rw [hob]; exact hl) hs
      simp only [RO] at ho
      rcases ho with ⟨h6, _⟩ | ⟨b', sh', e3, _, hr⟩
      · simp at h6
      · obtain ⟨rfl, rfl⟩ := Prod.mk.inj (Option.some.inj e3)
        exact row b sh _ l e2 hr h
    · simp at h
  · simp only [RT] at hy
    obtain ⟨b, s, e2, _, hr⟩ := hy
    exact row b s _ _ e2 hr h
  · simp only [RT] at hy
    obtain ⟨b, e2, _, hr⟩ := hy
    have hget : ∀ (o : Nat) (l : List U), RBs K b o l → ∀ (j : Nat) (x : U), l[j]? = some x → ∃ u, K.w.cell? ⟨b, o + j, none⟩ = some u ∧ RU K x u := by
      intro o l
      induction l generalizing o with
      | nil => intro _ j x hx; simp at hx
      | cons y l ih =>
        intro hr j x hx
        simp only [RBs] at hr
        cases j with
        | zero => simp at hx; subst hx; exact hr.1
        | succ j =>
          obtain ⟨u, hu, r⟩ := ih (o + 1) hr.2 j x (by simpa using hx)
          exact ⟨u, by rw [← hu, show o + (j + 1) = o + 1 + j by omega], r⟩
    refine key b 0 _ (fun j => (_ : Option U).map U.toT) (by rw [e2]; simp) (fun j x hx => ?_) h
    obtain ⟨y, hy, rfl⟩ := Option.map_eq_some_iff.1 hx
    obtain ⟨u, hu, r⟩ := hget 0 _ hr j y hy
    exact ⟨u, hu, RU_toT.2 r⟩
  · simp at h
theorem load_sound (hobj : ∀ o x s, ob o = some x → K.σ o = some s → RO K s x) (t : TypeId) (y : Operand) (d : Option Nat) (ty : TypeId) (pos : String) (af : Array Edge) (g : Option (Nat × Bool)) {S : St} (hob : ob = obj S.o) {x : T}
    (hy : RT K (S.ev y) (a.eval y)) (h : loadT P S t (S.ev y) = some x) : Does P K n ob a ⟨d, .load t y, ty, pos, af, g⟩ x [] [] := by
  obtain ⟨b, o, v, e, hv, r⟩ := load_core (P := P) hobj t hob hy h
  refine .pure (val := v) ?_ r
  simp only [execOp]
  rw [run_value, e]
  simp only [Instr.loadAt, Instr.sureAddr, bind, Pure.pure, Sem.bind, hv, Result.andThen]
end
end Go.Proofs.Ytnbijiopcgfmfaa.Tev
