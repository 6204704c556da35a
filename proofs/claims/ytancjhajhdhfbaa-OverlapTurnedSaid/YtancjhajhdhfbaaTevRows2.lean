/- A map whose values are rows of numbers that grow: what the map holds. -/
import Derived.Test.YtancjhajhdhfbaaTevRows
namespace Go.Proofs.Ytancjhajhdhfbaa.Tev
open Go Go.RowKit Go.Proofs.Ytancjhajhdhfbaa.Q
set_option linter.unusedSectionVars false
set_option linter.unusedVariables false
set_option linter.unusedSimpArgs false
/-- A key, its row, when it came; where the row lies. -/
abbrev RowP := Int × List Int × Nat
abbrev RowE := RowP × Nat × Nat × Nat
def entOf (e : RowE) : MapEntry := { key := .int .i64 e.1.1, val := .slice (some ⟨e.2.1, e.2.2.1, none⟩) e.1.2.1.length e.2.2.2, born := e.1.2.2 }
structure RowIn (w : World) (N0 : Nat) (e : RowE) : Prop where
  ge : N0 ≤ e.2.1
  cells : ∃ cs t, w.heap[e.2.1]? = some (.cells cs t (0, 0)) ∧ e.2.2.1 + e.2.2.2 ≤ cs.size
  row : RCs w (fun _ => False) e.2.1 e.2.2.1 (ints e.1.2.1)
  le : e.1.2.1.length ≤ e.2.2.2
structure MapSt (w : World) (N0 bm : Nat) (es : List RowE) (cl : Nat) : Prop where
  map : w.heap[bm]? = some (.map (es.map entOf).toArray cl)
  rows : ∀ e ∈ es, RowIn w N0 e
  apart : (es.map (·.2.1)).Nodup
  born : ∀ e ∈ es, e.1.2.2 < cl
  lt : bm < N0
def idxP : List RowP → Int → Nat → Option Nat
  | [], _, _ => none
  | e :: r, x, i => if x = e.1 then some i else idxP r x (i + 1)
theorem idxP_some : ∀ {s : List RowP} {x : Int} {i j : Nat}, idxP s x i = some j → i ≤ j ∧ ∃ e, s[j - i]? = some e ∧ e.1 = x
  | [], x, i, j, h => by simp [idxP] at h
  | e :: r, x, i, j, h => by
    rw [idxP] at h
    split at h
    · rename_i e1; obtain rfl := Option.some.inj h; exact ⟨Nat.le_refl _, e, by simp, e1.symm⟩
    · obtain ⟨h1, e', h2, h3⟩ := idxP_some h
      refine ⟨by omega, e', ?_, h3⟩
      rw [show j - i = (j - (i + 1)) + 1 by omega]; simpa using h2
/-- A number behind the row of a key. -/
def mapIns (s : List RowP × Nat) (x k : Int) : List RowP × Nat :=
  match idxP s.1 x 0 with
  | some j => (s.1.modify j fun y => (y.1, y.2.1 ++ [k], y.2.2), s.2)
  | none => (s.1 ++ [(x, [k], s.2)], s.2 + 1)
def mapAll (s : List RowP × Nat) : List Int → Nat → List RowP × Nat
  | [], _ => s
  | x :: r, k => mapAll (mapIns s x (k : Int)) r (k + 1)
def lookP (s : List RowP) (x : Int) : List Int := (((idxP s x 0).bind (s[·]?)).map (·.2.1)).getD []
theorem find_ents (kk : IntKind) (x : Int) : ∀ (es : List RowE) (i : Nat), Instr.findNow (.int kk) (.int .i64 x) (es.map entOf) i = some ((idxP (es.map Prod.fst) x i).bind fun j => (es[j - i]?).map fun e => (j, (entOf e).val))
  | [], i => rfl
  | e :: es, i => by
    have ih := find_ents kk x es (i + 1)
    have hk : (entOf e).key = .int .i64 e.1.1 := rfl
    simp only [List.map_cons, idxP, Instr.findNow, hk, Instr.sameNow, if_true]
    by_cases h : x = e.1.1
    · rw [if_pos h, show (x == e.1.1) = true from beq_iff_eq.2 h]
      simp
    · rw [if_neg h, show (x == e.1.1) = false from beq_eq_false_iff_ne.2 h]
      simp only
      rw [ih]
      congr 1
      cases hj : idxP (es.map Prod.fst) x (i + 1) with
      | none => rfl
      | some j =>
        have := (idxP_some hj).1
        simp only [Option.bind_some]
        rw [show j - i = (j - (i + 1)) + 1 by omega]
        rfl
/-- What is kept but for the map. -/
structure Keeps (bm : Nat) (w w' : World) : Prop where
  os : w'.os = w.os
  tape : w'.tape = w.tape
  output : w'.output = w.output
  size : w.heap.size ≤ w'.heap.size
  block : ∀ k, k < w.heap.size → k ≠ bm → w'.heap[k]? = w.heap[k]?
theorem Keeps.refl (bm : Nat) (w : World) : Keeps bm w w := ⟨rfl, rfl, rfl, Nat.le_refl _, fun _ _ _ => rfl⟩
def setM (w : World) (b : Nat) (o : Obj) : World := { w with heap := w.heap.setIfInBounds b o }
theorem setM_other (w : World) (b : Nat) (o : Obj) (c : Nat) (h : c ≠ b) : (setM w b o).heap[c]? = w.heap[c]? := by
  simp only [setM, Array.getElem?_setIfInBounds]; rw [if_neg (fun e => h e.symm)]
theorem setM_heap (w : World) (b : Nat) (o : Obj) (h : b < w.heap.size) : (setM w b o).heap[b]? = some o := by simp [setM, h]
theorem setM_size (w : World) (b : Nat) (o : Obj) : (setM w b o).heap.size = w.heap.size := by simp [setM]
theorem RowIn.mono {w w' : World} {N0 : Nat} {e : RowE} (h : RowIn w N0 e) (hb : w'.heap[e.2.1]? = w.heap[e.2.1]?) : RowIn w' N0 e := by
  obtain ⟨h1, ⟨cs, t, h2, h3⟩, h4, h5⟩ := h
  exact ⟨h1, ⟨cs, t, hb.trans h2, h3⟩, RCs_ints_mono hb h4, h5⟩
section
variable {P : Program} {ops : Array Oper} {Q : Exit → Act → World → Prop} {l : List Oper}
theorem map_add {w w3 : World} {N0 bm : Nat} {es : List RowE} {cl : Nat} {x k : Int} {b sh c : Nat} (h : MapSt w N0 bm es cl) (hN : N0 ≤ w.heap.size) (hj : idxP (es.map Prod.fst) x 0 = none) (ha : AppR w w3 N0 (fun _ => False) [k] b sh c) :
    MapSt (setM w3 bm (.map ((es.map entOf).toArray.push { key := .int .i64 x, val := .slice (some ⟨b, sh, none⟩) 1 c, born := cl }) (cl + 1))) N0 bm (es ++ [((x, [k], cl), b, sh, c)]) (cl + 1) := by
  have hbm : bm < w3.heap.size := Nat.lt_of_lt_of_le h.lt (Nat.le_trans hN ha.below.size)
  have hb : w.heap.size ≤ b := by rcases ha.at_ with q | q; exact q.elim; exact q
  refine ⟨?_, fun e he => ?_, ?_, fun e he => ?_, h.lt⟩
  · rw [setM_heap _ _ _ hbm]
    congr 2
    simp [entOf]
  · rcases List.mem_append.1 he with he | he
    · have hr := h.rows e he
      obtain ⟨cs, t, q1, _⟩ := hr.cells
      have hlt := heap_lt q1
      have := hr.ge
      exact hr.mono ((setM_other _ _ _ _ (by have := h.lt; omega)).trans (ha.kept _ hlt (fun q => q)))
    · simp only [List.mem_singleton] at he
      subst he
      obtain ⟨cs, t, q1, q2⟩ := ha.cells
      have hne : b ≠ bm := by have := h.lt; omega
      exact ⟨ha.base, ⟨cs, t, (setM_other _ _ _ _ hne).trans q1, q2⟩, RCs_ints_mono (l := [k]) (setM_other _ _ _ _ hne) ha.row, ha.le⟩
  · rw [List.map_append, List.nodup_append]
    refine ⟨h.apart, by simp, fun a h1 b' h2 => ?_⟩
    obtain ⟨e, he, rfl⟩ := List.mem_map.1 h1
    simp at h2; subst h2
    obtain ⟨cs, t, q1, _⟩ := (h.rows e he).cells
    have := heap_lt q1
    omega
  · rcases List.mem_append.1 he with he | he
    · have := h.born e he; omega
    · simp only [List.mem_singleton] at he
      subst he; simp
theorem map_set {w w3 : World} {N0 bm : Nat} {es : List RowE} {cl : Nat} {x k : Int} {b sh c j : Nat} {e : RowE} (h : MapSt w N0 bm es cl) (hN : N0 ≤ w.heap.size) (hj : es[j]? = some e) (hx : e.1.1 = x) (ha : AppR w w3 N0 (fun q => q = e.2.1) (e.1.2.1 ++ [k]) b sh c) :
    MapSt (setM w3 bm (.map ((es.map entOf).toArray.modify j fun en => { en with key := .int .i64 x, val := .slice (some ⟨b, sh, none⟩) (e.1.2.1.length + 1) c }) cl)) N0 bm (es.set j ((x, e.1.2.1 ++ [k], e.1.2.2), b, sh, c)) cl := by
  have hbm : bm < w3.heap.size := Nat.lt_of_lt_of_le h.lt (Nat.le_trans hN ha.below.size)
  have hjl : j < es.length := by rcases Nat.lt_or_ge j es.length with h' | h'; exact h'; simp [h'] at hj
  have old : ∀ (i : Nat) (z : RowE), i ≠ j → es[i]? = some z → z.2.1 ≠ e.2.1 ∧ z.2.1 < w.heap.size := by
    intro i z hi hz
    have il : i < es.length := by rcases Nat.lt_or_ge i es.length with h' | h'; exact h'; simp [h'] at hz
    obtain ⟨cs, t, q1, _⟩ := (h.rows z (List.mem_of_getElem? hz)).cells
    refine ⟨fun q => hi ?_, heap_lt q1⟩
    have hn := List.pairwise_iff_getElem.1 h.apart
    rw [List.getElem?_eq_getElem il] at hz
    rw [List.getElem?_eq_getElem hjl] at hj
    have z1 := Option.some.inj hz
    have z2 := Option.some.inj hj
    rcases Nat.lt_trichotomy i j with h1 | h1 | h1
    · have := hn i j (by simpa using il) (by simpa using hjl) h1
      simp only [List.getElem_map, z1, z2] at this
      exact absurd q this
    · exact h1
    · have := hn j i (by simpa using hjl) (by simpa using il) h1
      simp only [List.getElem_map, z1, z2] at this
      exact absurd q.symm this
  have hebl : e.2.1 < w.heap.size := by obtain ⟨cs, t, q1, _⟩ := (h.rows e (List.mem_of_getElem? hj)).cells; exact heap_lt q1
  have hege := (h.rows e (List.mem_of_getElem? hj)).ge
  have hbb : b = e.2.1 ∨ w.heap.size ≤ b := ha.at_
  have mem : ∀ z ∈ es.set j ((x, e.1.2.1 ++ [k], e.1.2.2), b, sh, c), z = ((x, e.1.2.1 ++ [k], e.1.2.2), b, sh, c) ∨ ∃ i, i ≠ j ∧ es[i]? = some z := by
    intro z hz
    obtain ⟨i, hi⟩ := List.getElem?_of_mem hz
    rw [List.getElem?_set] at hi
    by_cases hij : j = i
    · subst hij
      rw [if_pos rfl, if_pos hjl] at hi
      exact .inl (Option.some.inj hi).symm
    · rw [if_neg hij] at hi
      exact .inr ⟨i, fun q => hij q.symm, hi⟩
  refine ⟨?_, fun z hz => ?_, ?_, fun z hz => ?_, h.lt⟩
  · rw [setM_heap _ _ _ hbm]
    congr 2
    apply Array.toList_inj.1
    rw [Array.toList_modify]
    apply List.ext_getElem?
    intro i
    simp only [List.getElem?_modify, List.getElem?_map, List.getElem?_set]
    by_cases hij : j = i
    · subst hij
      simp only [hj, Option.map_some, if_true, hjl, entOf, List.length_append, List.length_singleton, Option.map_eq_map]
    · simp only [if_neg hij]
      cases es[i]? <;> rfl
  · rcases mem z hz with rfl | ⟨i, hi, hz'⟩
    · obtain ⟨cs, t, q1, q2⟩ := ha.cells
      have hne : b ≠ bm := by have := h.lt; have := ha.base; omega
      exact ⟨ha.base, ⟨cs, t, (setM_other _ _ _ _ hne).trans q1, q2⟩, RCs_ints_mono (setM_other _ _ _ _ hne) ha.row, ha.le⟩
    · obtain ⟨o1, o2⟩ := old i z hi hz'
      have hr := h.rows z (List.mem_of_getElem? hz')
      exact hr.mono ((setM_other _ _ _ _ (by have := h.lt; have := hr.ge; omega)).trans (ha.kept _ o2 o1))
  · refine List.pairwise_iff_getElem.2 fun i i' hi hi' hii hh => ?_
    simp only [List.getElem_map, List.getElem_set, List.length_map, List.length_set] at hi hi' hh
    have g1 : es[i]? = some es[i] := List.getElem?_eq_getElem hi
    have g2 : es[i']? = some es[i'] := List.getElem?_eq_getElem hi'
    by_cases e1 : j = i
    · by_cases e2 : j = i'
      · omega
      · rw [if_pos e1, if_neg e2] at hh
        obtain ⟨o1, o2⟩ := old i' _ (fun q => e2 q.symm) g2
        simp only at hh
        rcases hbb with q | q
        · exact o1 (by rw [← hh, q])
        · omega
    · by_cases e2 : j = i'
      · rw [if_neg e1, if_pos e2] at hh
        obtain ⟨o1, o2⟩ := old i _ (fun q => e1 q.symm) g1
        simp only at hh
        rcases hbb with q | q
        · exact o1 (by rw [hh, q])
        · omega
      · rw [if_neg e1, if_neg e2] at hh
        have := List.pairwise_iff_getElem.1 h.apart i i' (by simpa using hi) (by simpa using hi') hii
        simp only [List.getElem_map] at this
        exact this hh
  · rcases mem z hz with rfl | ⟨i, hi, hz'⟩
    · exact h.born e (List.mem_of_getElem? hj)
    · exact h.born z (List.mem_of_getElem? hz')
end
theorem mapIns_none {es : List RowE} {cl : Nat} {x k : Int} {p : Nat × Nat × Nat} (hj : idxP (es.map Prod.fst) x 0 = none) : mapIns (es.map Prod.fst, cl) x k = ((es ++ [((x, [k], cl), p)]).map Prod.fst, cl + 1) := by
  unfold mapIns; rw [hj]; simp
theorem mapIns_some {es : List RowE} {cl : Nat} {x k : Int} {p : Nat × Nat × Nat} {j : Nat} {e : RowE} (hj : idxP (es.map Prod.fst) x 0 = some j) (he : es[j]? = some e) (hx : e.1.1 = x) : mapIns (es.map Prod.fst, cl) x k = ((es.set j ((x, e.1.2.1 ++ [k], e.1.2.2), p)).map Prod.fst, cl) := by
  unfold mapIns
  rw [hj]
  simp only [Prod.mk.injEq, and_true]
  apply List.ext_getElem?
  intro i
  have hjl : j < es.length := by rcases Nat.lt_or_ge j es.length with h' | h'; exact h'; simp [h'] at he
  simp only [List.getElem?_modify, List.getElem?_map, List.getElem?_set]
  by_cases hij : j = i
  · subst hij
    simp only [he, Option.map_some, if_true, hjl, Option.map_eq_map, hx]
  · simp only [if_neg hij]
    cases es[i]? <;> rfl
/-! What is looked up behind all. -/
theorem idxP_shift : ∀ (s : List RowP) (x : Int) (i : Nat), idxP s x (i + 1) = (idxP s x i).map (· + 1)
  | [], x, i => rfl
  | e :: r, x, i => by
    simp only [idxP]
    split
    · rfl
    · exact idxP_shift r x (i + 1)
theorem lookP_cons (e : RowP) (r : List RowP) (x : Int) : lookP (e :: r) x = if x = e.1 then e.2.1 else lookP r x := by
  unfold lookP
  rw [idxP]
  split
  · rfl
  · rw [idxP_shift]
    cases idxP r x 0 with
    | none => rfl
    | some j => simp
theorem lookP_snoc (x : Int) (p : RowP) : ∀ (s : List RowP), lookP (s ++ [p]) x = if idxP s x 0 = none then (if x = p.1 then p.2.1 else []) else lookP s x
  | [] => by
    rw [List.nil_append, lookP_cons]
    simp [idxP, lookP]
  | e :: r => by
    rw [List.cons_append, lookP_cons, lookP_cons, lookP_snoc x p r]
    have e0 : idxP (e :: r) x 0 = if x = e.1 then some 0 else (idxP r x 0).map (· + 1) := by rw [idxP, idxP_shift]
    by_cases h : x = e.1
    · rw [if_pos h] at e0
      rw [if_pos h, if_neg (by rw [e0]; simp), if_pos h]
    · rw [if_neg h] at e0
      rw [if_neg h, if_neg h]
      cases hj : idxP r x 0 with
      | none => rw [hj] at e0; rw [if_pos rfl, if_pos (show idxP (e :: r) x 0 = none from e0)]
      | some j => rw [hj] at e0; rw [if_neg (by simp), if_neg (by rw [e0]; simp)]
theorem lookP_none {s : List RowP} {x : Int} (h : idxP s x 0 = none) : lookP s x = [] := by unfold lookP; rw [h]; rfl
theorem lookP_modify (k : Int) (x y : Int) : ∀ (s : List RowP) (j : Nat), idxP s x 0 = some j → lookP (s.modify j fun z => (z.1, z.2.1 ++ [k], z.2.2)) y = if y = x then lookP s y ++ [k] else lookP s y
  | [], j, h => by simp [idxP] at h
  | e :: r, j, h => by
    rw [idxP] at h
    split at h
    · rename_i e1
      obtain rfl := Option.some.inj h
      simp only [List.modify_zero_cons, lookP_cons, e1]
      by_cases hy : y = e.1 <;> simp [hy]
    · rename_i e1
      rw [idxP_shift] at h
      obtain ⟨j', h1, rfl⟩ := Option.map_eq_some_iff.1 h
      simp only [List.modify_succ_cons, lookP_cons, lookP_modify k x y r j' h1]
      by_cases hy : y = e.1
      · rw [if_pos hy, if_pos hy, if_neg (fun q => e1 (q.symm.trans hy))]
      · rw [if_neg hy, if_neg hy]
theorem lookP_ins (s : List RowP) (cl : Nat) (x k y : Int) : lookP (mapIns (s, cl) x k).1 y = if y = x then lookP s y ++ [k] else lookP s y := by
  unfold mapIns
  cases hj : idxP s x 0 with
  | some j => exact lookP_modify k x y s j hj
  | none =>
    simp only
    rw [lookP_snoc]
    by_cases hy : y = x
    · subst hy
      rw [if_pos hj, if_pos rfl, if_pos rfl, lookP_none hj]; rfl
    · rw [if_neg hy, if_neg hy]
      split
      · rename_i h; rw [lookP_none h]
      · rfl
/-- Where y is, as numbers. -/
def hitsI : List Int → Int → Nat → List Int
  | [], _, _ => []
  | x :: q, y, k => if y = x then (k : Int) :: hitsI q y (k + 1) else hitsI q y (k + 1)
theorem lookP_all : ∀ (q : List Int) (s : List RowP × Nat) (k : Nat) (y : Int), lookP (mapAll s q k).1 y = lookP s.1 y ++ (hitsI q y k)
  | [], s, k, y => by simp [mapAll, hitsI]
  | x :: q, (s, cl), k, y => by
    rw [mapAll, lookP_all q _ (k + 1) y, lookP_ins, hitsI]
    by_cases h : y = x
    · rw [if_pos h, if_pos h]; simp
    · rw [if_neg h, if_neg h]
end Go.Proofs.Ytancjhajhdhfbaa.Tev
