/- The built-in functions, append first. -/
import Derived.Test.YtnbijiopcgfmfaaTevOps4
namespace Go.Proofs.Ytnbijiopcgfmfaa.Tev
open Go Go.RowKit
set_option linter.unusedSectionVars false
set_option linter.unusedVariables false
set_option linter.unusedSimpArgs false
section
variable {P : Program} {K : Ctx} {n : Nat} {ob : Nat → Option Ob} {a : Act}

/-- The cells that a slice shows, read. -/
theorem shown_sound (hg : Good K) (hobj : ∀ o x s, ob o = some x → K.σ o = some s → RO K s x) {S : St} (hob : ob = obj S.o) {x : T} {m sz : Nat} {l : List C} {u : Value} (h : shown S x = some (m, l)) (hl : l.length = m * sz) (r : RT K x u) :
    ∃ A c, u = .slice A m c ∧ ∃ us : List Value, us.length = m * sz ∧ (∀ w : World, (∀ b, b < K.w.heap.size → w.heap[b]? = K.w.heap[b]?) → (Builtin.firstCells sz m u).run P w = .ok us.toArray w) ∧ ∀ (i : Nat) (c : C), l[i]? = some c → ∃ v, us[i]? = some v ∧ RC K.w K.F c v := by
  have key : ∀ (A : Option Addr) (c : Nat), u = .slice A m c → ((m = 0 ∧ l = []) ∨ ∃ b o, A = some ⟨b, o, none⟩ ∧ b < K.w.heap.size ∧ RCs K.w K.F b o l) →
      ∃ A c, u = .slice A m c ∧ ∃ us : List Value, us.length = m * sz ∧ (∀ w : World, (∀ b, b < K.w.heap.size → w.heap[b]? = K.w.heap[b]?) → (Builtin.firstCells sz m u).run P w = .ok us.toArray w) ∧ ∀ (i : Nat) (c : C), l[i]? = some c → ∃ v, us[i]? = some v ∧ RC K.w K.F c v := by
    intro A c e hh
    refine ⟨A, c, e, ?_⟩
    rcases hh with ⟨rfl, rfl⟩ | ⟨b, o, rfl, hb, hr⟩
    · refine ⟨[], by simp, fun w _ => ?_, fun i c hi => by simp at hi⟩
      rw [e]
      cases A with
      | none => rfl
      | some ad => simp only [Builtin.firstCells, Nat.zero_mul]; rfl
    · let us : List Value := (List.range (m * sz)).map fun j => (K.w.cell? ⟨b, o + j, none⟩).getD undef
      have hus : ∀ (j : Nat) (v : Value), us[j]? = some v → K.w.cell? ⟨b, o + j, none⟩ = some v ∧ j < m * sz := fun j v hj => by
        have hlt : j < m * sz := by
          rcases Nat.lt_or_ge j (m * sz) with h' | h'
          · exact h'
          · simp [us, h'] at hj
        obtain ⟨x, hx⟩ : ∃ x, l[j]? = some x := ⟨l[j], List.getElem?_eq_getElem (by omega)⟩
        obtain ⟨v', hv', _⟩ := RCs_get _ _ _ _ hr hx
        simp [us, hlt, hv'] at hj
        exact ⟨by rw [hv', hj], hlt⟩
      refine ⟨us, by simp [us], fun w hw => ?_, fun i x hx => ?_⟩
      · rw [e]
        simp only [Builtin.firstCells]
        have hlen : us.length = m * sz := by simp [us]
        rw [← hlen]
        exact run_loadCells_list (P := P) w ⟨b, o, none⟩ us fun j v hv => by
          rw [Addr.add0, cell_of_heap (hw b hb)]; exact (hus j v hv).1
      · obtain ⟨v, hv, hr'⟩ := RCs_get _ _ _ _ hr hx
        have hi : i < m * sz := by rw [← hl]; rcases Nat.lt_or_ge i l.length with h' | h'; exact h'; simp [h'] at hx
        exact ⟨v, by simp [us, hi, hv], hr'⟩
  unfold shown at h
  split at h
  · simp only [Option.some.injEq, Prod.mk.injEq] at h; obtain ⟨rfl, rfl⟩ := h
    simp only [RT, RC] at r
    obtain ⟨A, c, e, _, _, h4⟩ := r
    exact key A c e (h4.imp id fun ⟨b, o, e, hF, hr⟩ => ⟨b, o, e, hg.F b hF, hr⟩)
  · simp only [Option.some.injEq, Prod.mk.injEq] at h; obtain ⟨rfl, rfl⟩ := h
    simp only [RT] at r
    obtain ⟨A, c, e, _, _, h4⟩ := r
    exact key A c e (h4.imp id fun ⟨b, o, e, hF, hr⟩ => ⟨b, o, e, Nat.lt_of_lt_of_le hF hg.base, hr⟩)
  · rename_i o off k sz' cap
    simp only [RT] at r
    obtain ⟨A, c, e, hc, _, h4⟩ := r
    split at h
    · rename_i l' g gen ho
      simp only [Option.some.injEq, Prod.mk.injEq] at h; obtain ⟨rfl, rfl⟩ := h
      refine key A c e ?_
      rcases h4 with ⟨rfl, _⟩ | ⟨b, sh, hs, rfl, cs, ee, fr, hb, _⟩
      · exact .inl ⟨by omega, by rw [show k = 0 by omega, Nat.zero_mul, rowAt_zero]⟩
      · have hro := hobj o _ _ (by rw [hob]; exact ho) hs
        simp only [RO] at hro
        rcases hro with ⟨h, _⟩ | ⟨b', sh', cs', et, h5, _, _, _, h6⟩
        · simp at h
        · obtain ⟨rfl, rfl⟩ := Prod.mk.inj (Option.some.inj h5)
          exact .inr ⟨b, _, rfl, heap_lt hb, RCs_row h6 _ _⟩
    · rename_i l' ho
      simp only [Option.some.injEq, Prod.mk.injEq] at h; obtain ⟨rfl, rfl⟩ := h
      refine key A c e ?_
      rcases h4 with ⟨rfl, _⟩ | ⟨b, sh, hs, rfl, cs, ee, fr, hb, _⟩
      · exact .inl ⟨by omega, by rw [show k = 0 by omega, Nat.zero_mul, rowAt_zero]⟩
      · have hro := hobj o _ _ (by rw [hob]; exact ho) hs
        simp only [RO] at hro
        rcases hro with ⟨h, _⟩ | ⟨b', sh', h5, _, h6⟩
        · simp at h
        · obtain ⟨rfl, rfl⟩ := Prod.mk.inj (Option.some.inj h5)
          exact .inr ⟨b, _, rfl, heap_lt hb, RCs_row h6 _ _⟩
    · simp at h
  · simp at h

theorem nextslicecap_le (need cap by_ : Nat) (h : cap < need) (hb : need * by_ ≤ 140737488355328) : ¬ Builtin.nextslicecap need cap * by_ > 2 ^ 48 := by
  have grow : ∀ (r c : Nat), c ≤ need + (need + 768) / 4 → Builtin.growBy need r c ≤ need + (need + 768) / 4 := by
    intro r
    induction r with
    | zero => intro c hc; exact hc
    | succ r ih =>
      intro c hc
      simp only [Builtin.growBy]
      split
      · exact hc
      · refine ih _ ?_; omega
  have hle : Builtin.nextslicecap need cap ≤ 2 * need ∨ (Builtin.nextslicecap need cap ≤ need + (need + 768) / 4 ∧ 256 ≤ need) := by
    unfold Builtin.nextslicecap
    split
    · left; omega
    · split
      · left; omega
      · right; exact ⟨grow 4 cap (by omega), by omega⟩
  have : Builtin.nextslicecap need cap ≤ 2 * need := by
    rcases hle with h1 | ⟨h1, h2⟩
    · exact h1
    · omega
  have h2 : Builtin.nextslicecap need cap * by_ ≤ 2 * (need * by_) := by rw [← Nat.mul_assoc]; exact Nat.mul_le_mul_right _ this
  omega
theorem run_builtin (b : Builtin) (args : Array Operand) (ats : Array TypeId) (d : Option Nat) (ty : TypeId) (pos : String) (af : Array Edge) (g : Option (Nat × Bool)) (w : World) :
    ∃ consts, (execOp a.eval ⟨d, .call ⟨.builtin b, args, ats⟩, ty, pos, af, g⟩).run P w = (builtin b ats ty consts (args.map a.eval)).run P w := ⟨_, rfl⟩
theorem run_append {t0 t1 e e1 : TypeId} {sz : Nat} {ats : Array TypeId} (h0 : ats[0]? = some t0) (he : elemOf P t0 = some e) (h1 : ats[1]? = some t1) (he1 : elemOf P t1 = some e1) (hs : szOf P e = some sz)
    (ty : TypeId) (base A : Option Addr) (sl sc m c : Nat) (us : List Value) (w : World) (hm : (Builtin.firstCells sz m (.slice A m c)).run P w = .ok us.toArray w) (hle : sl + m ≤ sc) {w' : World}
    (hst : (match base with | some ad => storeCells (ad.add (sl * sz)) us | none => (Pure.pure () : Sem Unit)).run P w = .ok () w') :
    (Builtin.append_ ats ty #[.slice base sl sc, .slice A m c]).run P w = .ok (.slice base (sl + m) sc) w' := by
  simp only [Builtin.append_, h0, h1, bind, Pure.pure, List.getElem?_toArray, List.getElem?_cons_zero, List.getElem?_cons_succ, Sem.bind]
  simp only [Sem.run_bind', under_run (elemOf_run he), under_run (elemOf_run he1), Result.andThen, szOf_run hs, Builtin.lenOf, Sem.run, Sem.bind, Bool.false_eq_true, if_false]
  rw [show Sem.run P (pure m : Sem Nat) w = .ok m w from rfl]
  simp only
  rw [if_pos hle, Sem.run_bind', if_pos (show (!false) = true from rfl), hm]
  simp only [Result.andThen]
  cases base with
  | none => simp only [Pure.pure, Sem.run, Result.ok.injEq, true_and] at hst ⊢; exact hst
  | some ad => simp only [Sem.run_bind'] at hst ⊢; rw [hst]; rfl
theorem run_append_new {t0 t1 e e1 : TypeId} {sz by_ : Nat} {ats : Array TypeId} {z : List T} (h0 : ats[0]? = some t0) (he : elemOf P t0 = some e) (h1 : ats[1]? = some t1) (he1 : elemOf P t1 = some e1) (hs : szOf P e = some sz)
    (hby : bytesOf P e = some by_) (hby0 : 0 < by_) (hz : zeroOf P e = some z) (hzl : z.length = sz) (ty : TypeId) (base A : Option Addr) (sl sc m c : Nat) (us uo : List Value) (w : World)
    (hm : (Builtin.firstCells sz m (.slice A m c)).run P w.drew = .ok us.toArray w.drew) (ho : (Builtin.firstCells sz sl (.slice base sl sc)).run P w.drew = .ok uo.toArray w.drew) (hle : ¬ sl + m ≤ sc) (hb : (sl + m) * by_ ≤ 140737488355328) :
    ∃ cap rest, sl + m ≤ cap ∧ rest.length = (cap - (sl + m)) * sz ∧
    (Builtin.append_ ats ty #[.slice base sl sc, .slice A m c]).run P w = .ok (.slice (some ⟨w.heap.size, 0, none⟩) (sl + m) cap) (w.drew.alloc (.cells (uo ++ us ++ rest).toArray e)) := by
  obtain ⟨info, h5, h6⟩ := bytes_run hby
  obtain ⟨v0, hv1, _, hv3⟩ := zero_run hz
  have hv : v0.cells.size = sz := by rw [← hzl, hv3]; simp
  have hneed : sl + m ≤ 140737488355328 := Nat.le_trans (Nat.le_mul_of_pos_right _ hby0) hb
  have c1 : ¬ (((sl + m : Nat) : Int) > IntKind.i64.max ∧ (False ∨ info.bytes = 0)) := by rintro ⟨_, h | h⟩; exact h; omega
  have c2 : ¬ Builtin.nextslicecap (sl + m) sc * info.bytes > 2 ^ 48 := by rw [h6]; exact nextslicecap_le _ _ _ (by omega) hb
  refine ⟨(Question.appendCap (sl + m) sc e).cut (w.tape w.drawn (.appendCap (sl + m) sc e)), (Builtin.zeroCells v0.cells (((Question.appendCap (sl + m) sc e).cut (w.tape w.drawn (.appendCap (sl + m) sc e))) - (sl + m))).toList, ?_, ?_, ?_⟩
  · simp only [Question.cut]; omega
  · simp [Builtin.zeroCells, hv]
  generalize hcap : (Question.appendCap (sl + m) sc e).cut (w.tape w.drawn (.appendCap (sl + m) sc e)) = cap
  have hch : (choose (.appendCap (sl + m) sc e)).run P w = .ok cap w.drew := by
    simp [choose, Sem.run, Question.forced, hcap]
  have hroom : ∀ k w, (askRoom k).run P w = .ok () w := fun k w => by unfold askRoom; split <;> rfl
  simp only [Builtin.append_, h0, h1, bind, Pure.pure, List.getElem?_toArray, List.getElem?_cons_zero, List.getElem?_cons_succ, Sem.bind]
  simp only [Sem.run_bind', under_run (elemOf_run he), under_run (elemOf_run he1), Result.andThen, szOf_run hs, Builtin.lenOf, Sem.run, Sem.bind, Bool.false_eq_true, if_false]
  rw [show Sem.run P (pure m : Sem Nat) w = .ok m w from rfl]
  simp only
  rw [if_neg hle, Sem.run_bind', info_run h5]
  simp only [Result.andThen]
  rw [if_neg c1, Sem.run_bind', info_run h5]
  simp only [Result.andThen]
  rw [if_neg c2, Sem.run_bind', hch]
  simp only [Result.andThen, Sem.run_bind', info_run h5, hroom, ho, hm, hv1, newRow, newObj, bind, Sem.run, Sem.bind, Pure.pure, World.alloc_eq, Bool.not_false, if_true, World.size_drew]
  have : (uo.toArray ++ us.toArray ++ Builtin.zeroCells v0.cells (cap - (sl + m))) = (uo ++ us ++ (Builtin.zeroCells v0.cells (cap - (sl + m))).toList).toArray := by
    apply Array.toList_inj.1; simp
  rw [this]

def Ctx.draw (K : Ctx) : Ctx := { K with w := K.w.drew }
theorem KExt.draw : KExt K K.draw := ⟨rfl, fun _ h => h, fun _ _ h => h, fun _ _ => rfl, fun _ cs e fr h => ⟨cs, e, fr, h, rfl⟩⟩
theorem Good.draw (hg : Good K) : Good K.draw := ⟨hg.F, hg.base⟩
theorem Step.ofDraw {fz : List Nat} {x : T} {nw : List Ob} {K' : Ctx} {val : Value} (h : Step K.draw n ob x nw fz K' val) : Step K n ob x nw fz K' val :=
  ⟨KExt.draw.trans h.ext, ((Below.refl _ _).drew).trans h.below, h.val, h.new, h.dom, h.F, h.frz, h.place, h.apart, h.kept⟩
def Ctx.grow (K : Ctx) (n b sh : Nat) (cs : Array Value) : Ctx := { K with w := K.w.setRow b cs, σ := fun m => if m = n then some (some (b, sh)) else K.σ m }
theorem setRow_other (w : World) (g : Nat) (cs : Array Value) (b : Nat) (h : b ≠ g) : (w.setRow g cs).heap[b]? = w.heap[b]? := by
  simp only [World.setRow, Array.getElem?_modify]
  rw [if_neg (by omega)]
theorem setRow_size (w : World) (g : Nat) (cs : Array Value) : (w.setRow g cs).heap.size = w.heap.size := by simp [World.setRow]
theorem setRow_below {B : Nat} {w : World} {g : Nat} {cs : Array Value} (h : B ≤ g) : Below B w (w.setRow g cs) :=
  ⟨rfl, rfl, rfl, by rw [setRow_size]; exact Nat.le_refl _, fun k hk => setRow_other _ _ _ _ (by omega)⟩
/-- An empty row without a block. -/
def Ctx.void (K : Ctx) (n : Nat) : Ctx := { K with σ := fun m => if m = n then some none else K.σ m }
theorem Step.void (hn : K.σ n = none) {x : T} {g gen : Nat} {val : Value} (hx : RT (K.void n) x val) : Step K n ob x [.arr [] g gen] [] (K.void n) val where
  ext := ⟨rfl, fun _ h => h, fun o s h => by
    show (if o = n then _ else K.σ o) = _
    split
    · rename_i e; subst e; rw [hn] at h; simp at h
    · exact h, fun _ _ => rfl, fun _ cs e fr h => ⟨cs, e, fr, h, rfl⟩⟩
  below := Below.refl _ _
  val := hx
  new := fun i y h => by
    cases i with
    | zero => simp at h; subst h; exact ⟨none, by simp [Ctx.void], by simp only [RO]; exact .inl ⟨trivial, trivial⟩⟩
    | succ i => simp at h
  dom := fun m s h => by
    have h' : (if m = n then some none else K.σ m) = some s := h
    split at h'
    · rename_i e; exact .inr ⟨0, by simp, by simpa using e⟩
    · exact .inl h'
  F := fun b h => .inl h
  frz := fun o l g e b sh _ h => by simp at h
  place := fun i b sh hi h => by
    have : i = 0 := by simp at hi; omega
    subst this
    simp [Ctx.void] at h
  apart := fun i j b sh sh' hi hj _ _ => by simp at hi hj; omega
  kept := .inl fun b hb => rfl
/-- A new row behind an append. -/
theorem Step.newRow (hg : Good K) (hn : K.σ n = none) {l l' : List C} {g gen k m cap sz : Nat} {uo us rest : List Value} (e : TypeId) (hcap : k + m ≤ cap) (hlen : uo.length = k * sz) (hlen' : us.length = m * sz) (hrest : rest.length = (cap - (k + m)) * sz)
    (hll : l.length = k * sz) (hl : ∀ (i : Nat) (c : C), l[i]? = some c → ∃ v, uo[i]? = some v ∧ RC K.w K.F c v) (hl' : ∀ (i : Nat) (c : C), l'[i]? = some c → ∃ v, us[i]? = some v ∧ RC K.w K.F c v) :
    Step K n ob (.sl n 0 (k + m) sz none) [.arr (l ++ l') g gen] [] (K.draw.alloc n (.cells (uo ++ us ++ rest).toArray e)) (.slice (some ⟨K.w.heap.size, 0, none⟩) (k + m) cap) := by
  have hg' : Good K.draw := hg.draw
  refine .ofDraw (.alloc hg' hn _ ?_ ?_)
  · simp only [RT]
    refine ⟨_, cap, rfl, hcap, fun q hq => by simp at hq, .inr ⟨K.w.heap.size, 0, by simp [Ctx.alloc, Ctx.draw], rfl, _, e, (0, 0), heap_alloc_new _ _, ?_⟩⟩
    simp only [List.size_toArray, List.length_append, hlen, hlen', hrest, Nat.zero_add]
    rw [← Nat.add_mul, ← Nat.add_mul]
    exact Nat.mul_le_mul_right _ (by omega)
  · simp only [RO]
    refine .inr ⟨K.w.heap.size, 0, _, e, rfl, fun hf => by have := hg.F _ hf; exact Nat.lt_irrefl _ this, hg.base, heap_alloc_new _ _, ?_⟩
    refine RCs_mk (heap_alloc_new _ _) 0 _ fun i c hc => ?_
    have up : ∀ c v, RC K.w K.F c v → RC (K.draw.alloc n (.cells (uo ++ us ++ rest).toArray e)).w K.F c v := fun c v r => RC.mono (w := K.w) (fun b h => h) (fun b h => heap_alloc_lt K.w.drew _ _ (hg.F b h)) _ _ r
    by_cases hi : i < l.length
    · rw [List.getElem?_append_left hi] at hc
      obtain ⟨v, hv, r⟩ := hl i c hc
      refine ⟨v, ?_, up _ _ r⟩
      simp only [Nat.zero_add, List.getElem?_toArray]
      rw [List.append_assoc, List.getElem?_append_left (by omega)]; exact hv
    · rw [List.getElem?_append_right (by omega)] at hc
      obtain ⟨v, hv, r⟩ := hl' _ c hc
      have hlt : i - l.length < us.length := by rcases Nat.lt_or_ge (i - l.length) us.length with h' | h'; exact h'; simp [h'] at hv
      refine ⟨v, ?_, up _ _ r⟩
      simp only [Nat.zero_add, List.getElem?_toArray]
      rw [List.append_assoc, List.getElem?_append_right (by omega), List.getElem?_append_left (by omega), hlen, ← hll]; exact hv
end
end Go.Proofs.Ytnbijiopcgfmfaa.Tev
