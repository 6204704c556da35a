/- A map whose values are rows of numbers that grow: the loop that fills it. -/
import Derived.Test.YtancjhajhdhfbaaTevRows2
namespace Go.Proofs.Ytancjhajhdhfbaa.Tev
open Go Go.RowKit Go.Proofs.Ytancjhajhdhfbaa.Q
set_option linter.unusedSectionVars false
set_option linter.unusedVariables false
set_option linter.unusedSimpArgs false
/-- What is known of the program's types. -/
structure RowTy (P : Program) (tm kt ti te : TypeId) : Prop where
  m : P.underlying tm = some (.map kt ti)
  k : P.underlying kt = some (.int .i64)
  z : ∀ w, (zeroValue ti).run P w = .ok (.slice none 0 0) w
  e : elemOf P ti = some te
  s : szOf P te = some 1
  b : bytesOf P te = some 8
  z1 : zeroOf P te = some [I 0]
  a : aggOf P te = some false
  u : P.underlying te = some (.int .i64)
/-- An act with the same but for the temporaries from p on, up to q, and r. -/
structure ActEq (r : Nat → Prop) (a a' : Act) : Prop where
  size : a'.tmps.size = a.tmps.size
  defers : a'.defers = a.defers
  tm : ∀ t, ¬ r t → a'.tmps.getD t undef = a.tmps.getD t undef
theorem ActEq.put {r : Nat → Prop} {a a' : Act} (h : ActEq r a a') {d : Nat} {v : Value} (hd : r d) (hl : d < a.tmps.size) : ActEq r a (a'.put (some d) v) where
  size := (put_size _ _ _).trans h.size
  defers := by simp [Act.put, h.defers]
  tm := fun t ht => (getD_put2 (by rw [h.size]; exact hl) (fun q => ht (by rw [q]; exact hd))).trans (h.tm t ht)
theorem ActEq.refl (r : Nat → Prop) (a : Act) : ActEq r a a := ⟨rfl, rfl, fun _ _ => rfl⟩
def updObj (ents : Array MapEntry) (cl : Nat) (x : Int) (v : Value) : Option (Nat × Value) → Obj
  | some (j, _) => .map (ents.modify j fun en => { en with key := .int .i64 x, val := v }) cl
  | none => .map (ents.push { key := .int .i64 x, val := v, born := cl }) (cl + 1)
theorem upd_run {P : Program} {t k e : TypeId} {kk : IntKind} (hu1 : P.underlying t = some (.map k e)) (hu2 : P.underlying k = some (.int kk)) {w : World} {b : Nat} {ents : Array MapEntry} {cl : Nat} (hb : w.heap[b]? = some (.map ents cl)) {x : Int} {v : Value} : ∀ {q : Option (Nat × Value)},
    Instr.findNow (.int kk) (.int .i64 x) ents.toList 0 = some q → (∀ j v, q = some (j, v) → ∃ en, ents[j]? = some en ∧ en.key = .int .i64 x) → (Instr.mapUpdate t (.map (some b)) (.int .i64 x) v).run P w = .ok () (setM w b (updObj ents cl x v q))
  | none, hq, hk => mapUpdate_run (P := P) (K := ⟨w, fun _ => False, 0, fun _ => none⟩) (x := v) hu1 hu2 hb hq hk
  | some (j, u), hq, hk => mapUpdate_run (P := P) (K := ⟨w, fun _ => False, 0, fun _ => none⟩) (x := v) hu1 hu2 hb hq hk
section
variable {P : Program} {ops : Array Oper} {Q : Exit → Act → World → Prop} {l : List Oper}
theorem map_bd {w : World} {N0 bm : Nat} {es : List RowE} {cl : Nat} (h : MapSt w N0 bm es cl) (hN : N0 ≤ w.heap.size) : bm < w.heap.size := Nat.lt_of_lt_of_le h.lt hN
theorem rows_r9 {tm kt ti te : TypeId} (ht : RowTy P tm kt ti te) {o1 o2 o3 o4 o5 o6 o7 o8 o9 : Oper} (g : o1.guard = none ∧ o2.guard = none ∧ o3.guard = none ∧ o4.guard = none ∧ o5.guard = none ∧ o6.guard = none ∧ o7.guard = none ∧ o8.guard = none ∧ o9.guard = none)
    (h1 : o1.op = .move (.tmp 8)) (d1 : o1.dst = some 41) (h2 : o2.op = .move (.tmp 10)) (d2 : o2.dst = some 42) (h3 : o3.op = .move (.tmp 8)) (d3 : o3.dst = some 43) (h4 : o4.op = .move (.tmp 10)) (d4 : o4.dst = some 44)
    (h5 : o5.op = .lookup tm (.tmp 43) (.tmp 44) false) (d5 : o5.dst = some 45) (h6 : o6.op = .move (.tmp 9)) (d6 : o6.dst = some 46) (h7 : o7.op = .buildSlice ti 1 #[(0, .tmp 46)]) (d7 : o7.dst = some 47)
    (h8 : o8.op = .call ⟨.builtin .append, #[.tmp 45, .tmp 47], #[ti, ti]⟩) (d8 : o8.dst = some 48) (h9 : o9.op = .mapUpdate tm (.tmp 41) (.tmp 42) (.tmp 48)) (d9 : o9.dst = none)
    {a : Act} {w : World} {N0 bm : Nat} {es : List RowE} {cl : Nat} {x k : Int} (hs : 49 < a.tmps.size) (e8 : a.tmps.getD 8 undef = .map (some bm)) (e9 : a.tmps.getD 9 undef = .int .i64 k) (e10 : a.tmps.getD 10 undef = .int .i64 x)
    (hm : MapSt w N0 bm es cl) (hN : N0 ≤ w.heap.size) (hlen : ∀ e ∈ es, e.1.2.1.length ≤ 4000)
    (hn : ∀ a' w' es' cl', (es'.map Prod.fst, cl') = mapIns (es.map Prod.fst, cl) x k → MapSt w' N0 bm es' cl' → (w'.os = w.os ∧ w'.tape = w.tape ∧ w'.output = w.output ∧ w.heap.size ≤ w'.heap.size ∧ ∀ q, q < N0 → q ≠ bm → w'.heap[q]? = w.heap[q]?) → ActEq (fun t => 41 ≤ t ∧ t ≤ 48) a a' → wpList P ops Q l a' w') :
    wpList P ops Q (o1 :: o2 :: o3 :: o4 :: o5 :: o6 :: o7 :: o8 :: o9 :: l) a w := by
  obtain ⟨g1, g2, g3, g4, g5, g6, g7, g8, g9⟩ := g
  have R : ∀ d, (41 ≤ d ∧ d ≤ 48) → d < a.tmps.size := fun d hd => by omega
  have A0 := ActEq.refl (fun t => 41 ≤ t ∧ t ≤ 48) a
  refine wl_move g1 (.inl h1) d1 (show a.eval (.tmp 8) = _ from e8) ?_
  have A1 := A0.put (d := 41) (v := .map (some bm)) ⟨by omega, by omega⟩ (R _ ⟨by omega, by omega⟩)
  refine wl_move g2 (.inl h2) d2 (show Act.eval _ (.tmp 10) = .int .i64 x from (A1.tm 10 (by omega)).trans e10) ?_
  have A2 := A1.put (d := 42) (v := .int .i64 x) ⟨by omega, by omega⟩ (R _ ⟨by omega, by omega⟩)
  refine wl_move g3 (.inl h3) d3 (show Act.eval _ (.tmp 8) = .map (some bm) from (A2.tm 8 (by omega)).trans e8) ?_
  have A3 := A2.put (d := 43) (v := .map (some bm)) ⟨by omega, by omega⟩ (R _ ⟨by omega, by omega⟩)
  refine wl_move g4 (.inl h4) d4 (show Act.eval _ (.tmp 10) = .int .i64 x from (A3.tm 10 (by omega)).trans e10) ?_
  have A4 := A3.put (d := 44) (v := .int .i64 x) ⟨by omega, by omega⟩ (R _ ⟨by omega, by omega⟩)
  generalize ha4 : (((a.put (some 41) (.map (some bm))).put (some 42) (.int .i64 x)).put (some 43) (.map (some bm))).put (some 44) (.int .i64 x) = a4 at A4 ⊢
  have s4 : a4.tmps.size = a.tmps.size := A4.size
  have t41 : a4.tmps.getD 41 undef = .map (some bm) := by
    rw [← ha4, getD_put2 (by simp only [put_size]; omega) (by omega), getD_put2 (by simp only [put_size]; omega) (by omega), getD_put2 (by simp only [put_size]; omega) (by omega), getD_put1 (by omega)]
  have t42 : a4.tmps.getD 42 undef = .int .i64 x := by
    rw [← ha4, getD_put2 (by simp only [put_size]; omega) (by omega), getD_put2 (by simp only [put_size]; omega) (by omega), getD_put1 (by simp only [put_size]; omega)]
  have t43 : a4.tmps.getD 43 undef = .map (some bm) := by
    rw [← ha4, getD_put2 (by simp only [put_size]; omega) (by omega), getD_put1 (by simp only [put_size]; omega)]
  have t44 : a4.tmps.getD 44 undef = .int .i64 x := by
    rw [← ha4, getD_put1 (by simp only [put_size]; omega)]
  have hf := find_ents .i64 x es 0
  have hl := lookup_run (P := P) ht.m ht.k hm.map (kv := .int .i64 x) (q := (idxP (es.map Prod.fst) x 0).bind fun j => (es[j - 0]?).map fun e => (j, (entOf e).val)) (by simpa using hf) (ht.z w) false
  simp only [Bool.false_eq_true, if_false] at hl
  -- the update
  have upd : ∀ (a5 : Act) (w3 : World) (v : Value) (es' : List RowE) (cl' : Nat), ActEq (fun t => 41 ≤ t ∧ t ≤ 48) a a5 → a5.tmps.getD 41 undef = .map (some bm) → a5.tmps.getD 42 undef = .int .i64 x → a5.tmps.getD 48 undef = v →
      w3.heap[bm]? = some (.map (es.map entOf).toArray cl) → Below N0 w w3 ∧ (∀ q, q < N0 → w3.heap[q]? = w.heap[q]?) → (es'.map Prod.fst, cl') = mapIns (es.map Prod.fst, cl) x k →
      MapSt (setM w3 bm (updObj (es.map entOf).toArray cl x v ((idxP (es.map Prod.fst) x 0).bind fun j => (es[j - 0]?).map fun e => (j, (entOf e).val)))) N0 bm es' cl' → wpList P ops Q (o9 :: l) a5 w3 := by
    intro a5 w3 v es' cl' hA q41 q42 q48 hh ⟨hB, hBk⟩ hi hM
    obtain ⟨dd9, op9, ty9, pos9, af9, gg9⟩ := o9
    simp only at g9 h9 d9
    subst g9; subst h9; subst d9
    have hrun := upd_run (P := P) (v := v) ht.m ht.k hh (x := x) (q := (idxP (es.map Prod.fst) x 0).bind fun j => (es[j - 0]?).map fun e => (j, (entOf e).val)) (by simpa using hf) (fun j v' hj => by
      obtain ⟨j', e1, e2⟩ := Option.bind_eq_some_iff.1 hj
      obtain ⟨e, e3, e4⟩ := Option.map_eq_some_iff.1 e2
      simp only [Prod.mk.injEq] at e4
      obtain ⟨rfl, _⟩ := e4
      obtain ⟨_, p, p1, p2⟩ := idxP_some e1
      simp only [Nat.sub_zero, List.getElem?_map] at e3 p1
      refine ⟨entOf e, by simp [e3], ?_⟩
      rw [e3] at p1
      simp at p1
      show Value.int .i64 e.1.1 = _
      rw [p1, p2])
    refine wl_skip (w' := _) rfl (by
      simp only [execOp]
      rw [show a5.eval (.tmp 41) = .map (some bm) from q41, show a5.eval (.tmp 42) = .int .i64 x from q42, show a5.eval (.tmp 48) = v from q48]
      show (Sem.bind _ _).run P w3 = _
      rw [Sem.run_bind', hrun]; rfl) (hn _ _ es' cl' hi hM ⟨?_, ?_, ?_, ?_, fun q hq hne => ?_⟩ hA)
    · exact hB.os
    · exact hB.tape
    · exact hB.output
    · show w.heap.size ≤ (setM w3 bm _).heap.size
      rw [setM_size]; exact hB.size
    · exact (setM_other _ _ _ _ hne).trans (hBk q hq)
  have hbl := map_bd hm hN
  cases hj : idxP (es.map Prod.fst) x 0 with
  | none =>
    rw [hj] at hl upd
    simp only [Option.bind_none, Option.map_none, Option.getD_none] at hl upd
    refine wl_val (v := .slice none 0 0) g5 (by
      obtain ⟨dd, op, ty, pos, af, gg⟩ := o5
      simp only at h5
      subst h5
      simp only [execOp]
      rw [show a4.eval (.tmp 43) = .map (some bm) from t43, show a4.eval (.tmp 44) = .int .i64 x from t44, run_value, hl]; rfl) ?_
    rw [d5]
    have A5 := A4.put (d := 45) (v := .slice none 0 0) ⟨by omega, by omega⟩ (R _ ⟨by omega, by omega⟩)
    refine wl_move g6 (.inl h6) d6 (show Act.eval _ (.tmp 9) = .int .i64 k from (A5.tm 9 (by omega)).trans e9) ?_
    have A6 := A5.put (d := 46) (v := .int .i64 k) ⟨by omega, by omega⟩ (R _ ⟨by omega, by omega⟩)
    refine wl_app_nil (N0 := N0) (k := k) g7 g8 h7 d7 h8 d8 ht.e ht.s ht.b ht.z1 (getD_put1 (by simp only [put_size]; omega)) (by decide) (by decide) (by simp only [put_size]; omega) hN (by
      rw [getD_put2 (by simp only [put_size]; omega) (by omega), getD_put1 (by omega)]) fun b' sh' c' w3 v1 hA => ?_
    have A8 := (A6.put (d := 47) (v := v1) ⟨by omega, by omega⟩ (R _ ⟨by omega, by omega⟩)).put (d := 48) (v := .slice (some ⟨b', sh', none⟩) 1 c') ⟨by omega, by omega⟩ (R _ ⟨by omega, by omega⟩)
    refine upd _ w3 (.slice (some ⟨b', sh', none⟩) 1 c') (es ++ [((x, [k], cl), b', sh', c')]) (cl + 1) A8 ?_ ?_ (getD_put1 (by simp only [put_size]; omega)) ((hA.kept bm hbl (fun q => q)).trans hm.map) ⟨hA.below, hA.below.block⟩ (mapIns_none hj).symm (map_add hm hN hj hA)
    · rw [getD_put2 (by simp only [put_size]; omega) (by omega), getD_put2 (by simp only [put_size]; omega) (by omega), getD_put2 (by simp only [put_size]; omega) (by omega), getD_put2 (by omega) (by omega), t41]
    · rw [getD_put2 (by simp only [put_size]; omega) (by omega), getD_put2 (by simp only [put_size]; omega) (by omega), getD_put2 (by simp only [put_size]; omega) (by omega), getD_put2 (by omega) (by omega), t42]
  | some j =>
    obtain ⟨_, p, p1, p2⟩ := idxP_some hj
    simp only [Nat.sub_zero, List.getElem?_map] at p1
    obtain ⟨e, he, rfl⟩ := Option.map_eq_some_iff.1 p1
    have hro := hm.rows e (List.mem_of_getElem? he)
    have hle := hlen e (List.mem_of_getElem? he)
    obtain ⟨cs, te', q1, q2⟩ := hro.cells
    rw [hj] at hl upd
    simp only [Option.bind_some, Nat.sub_zero, he, Option.map_some, Option.getD_some] at hl upd
    refine wl_val (v := (entOf e).val) g5 (by
      obtain ⟨dd, op, ty, pos, af, gg⟩ := o5
      simp only at h5
      subst h5
      simp only [execOp]
      rw [show a4.eval (.tmp 43) = .map (some bm) from t43, show a4.eval (.tmp 44) = .int .i64 x from t44, run_value, hl]; rfl) ?_
    rw [d5]
    have A5 := A4.put (d := 45) (v := (entOf e).val) ⟨by omega, by omega⟩ (R _ ⟨by omega, by omega⟩)
    refine wl_move g6 (.inl h6) d6 (show Act.eval _ (.tmp 9) = .int .i64 k from (A5.tm 9 (by omega)).trans e9) ?_
    have A6 := A5.put (d := 46) (v := .int .i64 k) ⟨by omega, by omega⟩ (R _ ⟨by omega, by omega⟩)
    refine wl_app_row (N0 := N0) (k := k) (xs := e.1.2.1) (b := e.2.1) (sh := e.2.2.1) (c := e.2.2.2) g7 g8 h7 d7 h8 d8 ht.e ht.s ht.b ht.z1 (getD_put1 (by simp only [put_size]; omega)) (by decide) (by decide) (by simp only [put_size]; omega) hN (by omega) (by
      rw [getD_put2 (by simp only [put_size]; omega) (by omega), getD_put1 (by omega)]; rfl) hro.le q1 q2 hro.row hro.ge fun b' sh' c' w3 v1 hA => ?_
    have A8 := (A6.put (d := 47) (v := v1) ⟨by omega, by omega⟩ (R _ ⟨by omega, by omega⟩)).put (d := 48) (v := .slice (some ⟨b', sh', none⟩) (e.1.2.1.length + 1) c') ⟨by omega, by omega⟩ (R _ ⟨by omega, by omega⟩)
    refine upd _ w3 (.slice (some ⟨b', sh', none⟩) (e.1.2.1.length + 1) c') (es.set j ((x, e.1.2.1 ++ [k], e.1.2.2), b', sh', c')) cl A8 ?_ ?_ (getD_put1 (by simp only [put_size]; omega)) ((hA.kept bm hbl (by have := hro.ge; have := hm.lt; omega)).trans hm.map) ⟨hA.below, hA.below.block⟩ (mapIns_some hj he p2).symm (map_set hm hN he p2 hA)
    · rw [getD_put2 (by simp only [put_size]; omega) (by omega), getD_put2 (by simp only [put_size]; omega) (by omega), getD_put2 (by simp only [put_size]; omega) (by omega), getD_put2 (by omega) (by omega), t41]
    · rw [getD_put2 (by simp only [put_size]; omega) (by omega), getD_put2 (by simp only [put_size]; omega) (by omega), getD_put2 (by simp only [put_size]; omega) (by omega), getD_put2 (by omega) (by omega), t42]
end
end Go.Proofs.Ytancjhajhdhfbaa.Tev
