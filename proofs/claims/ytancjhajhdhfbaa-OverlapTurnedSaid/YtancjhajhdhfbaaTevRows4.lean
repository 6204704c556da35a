/- A map whose values are rows of numbers that grow: the loop, and the state behind it. -/
import Derived.Test.YtancjhajhdhfbaaTevRows3
namespace Go.Proofs.Ytancjhajhdhfbaa.Tev
open Go Go.RowKit Go.Proofs.Ytancjhajhdhfbaa.Q
set_option linter.unusedSectionVars false
set_option linter.unusedVariables false
set_option linter.unusedSimpArgs false
theorem mapAll_snoc : ∀ (l : List Int) (s : List RowP × Nat) (x : Int) (k : Nat), mapAll s (l ++ [x]) k = mapIns (mapAll s l k) x ((k + l.length : Nat) : Int)
  | [], s, x, k => by simp [mapAll]
  | y :: l, s, x, k => by
    rw [List.cons_append, mapAll, mapAll, mapAll_snoc l _ x (k + 1), List.length_cons]
    congr 2
    omega
theorem mapIns_len {s : List RowP × Nat} {x k : Int} {i : Nat} (h : ∀ e ∈ s.1, e.2.1.length ≤ i) : ∀ e ∈ (mapIns s x k).1, e.2.1.length ≤ i + 1 := by
  intro e he
  unfold mapIns at he
  split at he
  · rename_i j hj
    obtain ⟨n, hn⟩ := List.getElem?_of_mem he
    rw [List.getElem?_modify] at hn
    obtain ⟨z, hz1, hz2⟩ := Option.map_eq_some_iff.1 hn
    have := h z (List.mem_of_getElem? hz1)
    rw [← hz2]
    split
    · simp; omega
    · omega
  · rcases List.mem_append.1 he with he | he
    · have := h e he; omega
    · simp at he; subst he; simp
section
variable {m : Nat} {w0 : World} {F0 : Nat → Prop} {K : Ctx} {S : St} {a : Act}
/-- More blocks that nobody writes any more. -/
theorem Inv.addF (h : Inv m w0 F0 K S a) (F' : Nat → Prop) (hF : ∀ b, F' b → b < K.w.heap.size ∧ w0.heap.size ≤ b ∧ ∀ o x sh, obj S.o o = some x → x ≠ .dead → K.σ o ≠ some (some (b, sh))) : Inv m w0 F0 { K with F := fun b => K.F b ∨ F' b } S a := by
  have hext : KExt K { K with F := fun b => K.F b ∨ F' b } := ⟨rfl, fun b hb => .inl hb, fun _ _ h => h, fun _ _ => rfl, fun b cs e fr h => ⟨cs, e, fr, h, rfl⟩⟩
  exact { h with
    good := ⟨fun b hb => hb.elim (h.good.F b) fun q => (hF b q).1, h.good.base⟩
    Fin := fun b hb => .inl (h.Fin b hb)
    Fout := fun b hb => hb.elim (h.Fout b) fun q => .inr (hF b q).2.1
    tm := fun t => RT.mono hext _ _ (h.tm t)
    oi := {
      objs := fun o x s ho hs => by
        by_cases hd : x = .dead
        · subst hd; simp only [RO]
        · exact RO.mono hext (fun b sh e hn hb => hb.elim hn fun q => (hF b q).2.2 o x sh ho hd (by rw [← e]; exact hs)) (fun _ _ _ => rfl) (h.oi.objs o x s ho hs)
      dom := h.oi.dom
      alias := h.oi.alias } }
/-- Other temporaries are known, in an act that has these as before. -/
theorem Inv.act (h : Inv m w0 F0 K S a) {a' : Act} {r : Nat → Prop} (ha : ActEq r a a') {T' : List (Nat × T)} (hT : ∀ t, get T' t = .junk ∨ (get T' t = get S.t t ∧ ¬ r t)) : Inv m w0 F0 K { S with t := T' } a' := { h with
  size := ha.size.trans h.size
  defers := ha.defers.trans h.defers
  tm := fun t => by
    show RT K (get T' t) _
    rcases hT t with h1 | ⟨h1, h2⟩
    · rw [h1]; simp only [RT]
    · rw [h1, ha.tm t h2]; exact h.tm t }
theorem setM_setM (w : World) (b : Nat) (o o' : Obj) (h : w.heap[b]? = some o) : setM (setM w b o') b o = w := by
  have hb := heap_lt h
  have e : ((w.heap.setIfInBounds b o').setIfInBounds b o) = w.heap := by
    apply Array.ext_getElem?
    intro i
    simp only [Array.getElem?_setIfInBounds, Array.size_setIfInBounds]
    by_cases hi : b = i
    · subst hi; rw [if_pos rfl, if_pos hb]; exact h.symm
    · rw [if_neg hi, if_neg hi]
  unfold setM
  simp only [e]
def mapC (s : List RowP) : List (Value × C × Nat) := s.map fun e => (.int .i64 e.1, .s none e.2.1.length (ints e.2.1), e.2.2)
theorem REs_rows {w : World} {F : Nat → Prop} {N0 : Nat} : ∀ (es : List RowE), (∀ e ∈ es, RowIn w N0 e) → (∀ e ∈ es, F e.2.1) → REs w F (mapC (es.map Prod.fst)) (es.map entOf)
  | [], _, _ => by simp only [mapC, List.map_nil, REs]
  | e :: es, h, hF => by
    have ih := REs_rows es (fun x hx => h x (by simp [hx])) (fun x hx => hF x (by simp [hx]))
    have he := h e (by simp)
    simp only [mapC, List.map_cons, REs] at ih ⊢
    refine ⟨entOf e, es.map entOf, rfl, rfl, ?_, rfl, ih⟩
    simp only [RC, entOf]
    exact ⟨_, _, rfl, he.le, fun k hk => by simp at hk, .inr ⟨_, _, rfl, hF e (by simp), RCs_ints he.row⟩⟩
/-- The map is full: the state behind the loop. -/
theorem Inv.rows (h : Inv m w0 F0 K S a) {om bm sh : Nat} {ents0 : Array MapEntry} (hom : obj S.o om = some (.mp [] 0)) (hσ : K.σ om = some (some (bm, sh))) (hb0 : K.w.heap[bm]? = some (.map ents0 0)) {w' : World} (hk : Keeps bm K.w w') {es : List RowE} {cl : Nat} (hm : MapSt w' K.w.heap.size bm es cl)
    {a' : Act} {r : Nat → Prop} (ha : ActEq r a a') {T' : List (Nat × T)} (hT : ∀ t, get T' t = .junk ∨ (get T' t = get S.t t ∧ ¬ r t)) :
    ∃ K', K'.w = w' ∧ Inv m w0 F0 K' ⟨T', setO om (.mp (mapC (es.map Prod.fst)) cl) S.o, S.n⟩ a' := by
  have hro := h.oi.objs om _ _ hom hσ
  simp only [RO] at hro
  obtain ⟨b', ents, e1, hF, hbase, hh, hre, _⟩ := hro
  obtain ⟨rfl, rfl⟩ := Prod.mk.inj (Option.some.inj e1)
  have hbm := heap_lt hb0
  have hbm' : bm < w'.heap.size := Nat.lt_of_lt_of_le hbm hk.size
  have hbel : Below K.w.heap.size K.w (setM w' bm (.map ents0 0)) := ⟨hk.os, hk.tape, hk.output, by rw [setM_size]; exact hk.size, fun k hlt => by
    by_cases hkb : k = bm
    · subst hkb; rw [setM_heap _ _ _ hbm', hb0]
    · rw [setM_other _ _ _ _ hkb]; exact hk.block k hlt hkb⟩
  have h1 := h.grown hbel
  have hblk : ∀ e ∈ es, e.2.1 < w'.heap.size ∧ K.w.heap.size ≤ e.2.1 := fun e he => by
    obtain ⟨cs, t, q, _⟩ := (hm.rows e he).cells
    exact ⟨heap_lt q, (hm.rows e he).ge⟩
  have h2 := h1.addF (fun b => ∃ e ∈ es, b = e.2.1) (by
    rintro b ⟨e, he, rfl⟩
    obtain ⟨q1, q2⟩ := hblk e he
    refine ⟨by show _ < (setM w' bm _).heap.size; rw [setM_size]; exact q1, Nat.le_trans h.below.size q2, fun o x sh ho hd hs => ?_⟩
    have := RO.lt h.good (h.oi.objs o x _ ho hs) hd
    omega)
  have hh1 : (setM w' bm (.map ents0 0)).heap[bm]? = some (.map ents0 0) := setM_heap _ _ _ hbm'
  have hcl : ents = ents0 := by rw [hh] at hb0; simp at hb0; exact hb0
  have hfin := h2.writeMap (o' := .map (es.map entOf).toArray cl) (es' := mapC (es.map Prod.fst)) (cl' := cl) hom hσ (fun q => q.elim hF fun ⟨e, he, q⟩ => by have := (hblk e he).2; omega) hbase hh1 (os := setO om (.mp (mapC (es.map Prod.fst)) cl) S.o) (fun o => by
    rw [obj_setO]; split
    · rename_i e; subst e; rw [hom]; rfl
    · rfl) ?_
  · refine ⟨_, ?_, (hfin.act ha hT)⟩
    exact setM_setM w' bm _ _ hm.map
  · simp only [RO]
    refine ⟨bm, (es.map entOf).toArray, rfl, ?_, hbase, ?_, ?_, fun x hx => ?_⟩
    · exact fun q => q.elim hF fun ⟨e, he, q⟩ => by have := (hblk e he).2; omega
    · exact setMap_heap _ _ _ (by show bm < (setM w' bm _).heap.size; rw [setM_size]; exact hbm')
    · have hw : (setM (setM w' bm (.map ents0 0)) bm (.map (es.map entOf).toArray cl)) = w' := setM_setM w' bm _ _ hm.map
      show REs (setM (setM w' bm (.map ents0 0)) bm (.map (es.map entOf).toArray cl)) (fun b => K.F b ∨ ∃ e ∈ es, b = e.2.1) _ (es.map entOf)
      rw [hw]
      exact REs_rows (N0 := K.w.heap.size) es hm.rows fun e he => .inr ⟨e, he, rfl⟩
    · unfold mapC at hx
      simp only [List.map_map, List.mem_map] at hx
      obtain ⟨e, he, rfl⟩ := hx
      exact hm.born e he
end
section
variable {P : Program} {m : Nat} {w0 : World} {F0 : Nat → Prop} {S : St}
abbrev rowMod (t : Nat) : Prop := t = 9 ∨ t = 10 ∨ (36 ≤ t ∧ t ≤ 49)
theorem rows_loop {tm kt ti te t2 t3 : TypeId} (ht : RowTy P tm kt ti te) {c7 p1 p2 p3 p4 p5 o1 o2 o3 o4 o5 o6 o7 o8 o9 r1 r2 : Oper} {i7 i8 i9 i10 : Nat}
    (gc : c7.guard = none) (hc : c7.op = .binOp .lss te (.tmp 36) (.tmp 35) t2) (dc : c7.dst = some 37)
    (gp : p1.guard = none ∧ p2.guard = none ∧ p3.guard = none ∧ p4.guard = none ∧ p5.guard = none)
    (hp1 : p1.op = .move (.tmp 36)) (dp1 : p1.dst = some 38) (hp2 : p2.op = .indexAddr ti (.tmp 34) (.tmp 36)) (dp2 : p2.dst = some 39) (hp3 : p3.op = .load te (.tmp 39)) (dp3 : p3.dst = some 40) (hp4 : p4.op = .assign (.tmp 38)) (dp4 : p4.dst = some 9) (hp5 : p5.op = .assign (.tmp 40)) (dp5 : p5.dst = some 10)
    (g : o1.guard = none ∧ o2.guard = none ∧ o3.guard = none ∧ o4.guard = none ∧ o5.guard = none ∧ o6.guard = none ∧ o7.guard = none ∧ o8.guard = none ∧ o9.guard = none)
    (h1 : o1.op = .move (.tmp 8)) (d1 : o1.dst = some 41) (h2 : o2.op = .move (.tmp 10)) (d2 : o2.dst = some 42) (h3 : o3.op = .move (.tmp 8)) (d3 : o3.dst = some 43) (h4 : o4.op = .move (.tmp 10)) (d4 : o4.dst = some 44)
    (h5 : o5.op = .lookup tm (.tmp 43) (.tmp 44) false) (d5 : o5.dst = some 45) (h6 : o6.op = .move (.tmp 9)) (d6 : o6.dst = some 46) (h7 : o7.op = .buildSlice ti 1 #[(0, .tmp 46)]) (d7 : o7.dst = some 47)
    (h8 : o8.op = .call ⟨.builtin .append, #[.tmp 45, .tmp 47], #[ti, ti]⟩) (d8 : o8.dst = some 48) (h9 : o9.op = .mapUpdate tm (.tmp 41) (.tmp 42) (.tmp 48)) (d9 : o9.dst = none)
    (gr1 : r1.guard = none) (gr2 : r2.guard = none) (hr1 : r1.op = .binOp .add te (.tmp 36) (.const (.int .i64 1)) t3) (dr1 : r1.dst = some 49) (hr2 : r2.op = .move (.tmp 49)) (dr2 : r2.dst = some 36)
    (hm : 49 < m) {om pr gg gen : Nat} {xs : List Int} {cap : Option Nat} (s8 : get S.t 8 = .mp om) (som : obj S.o om = some (.mp [] 0)) (s34 : get S.t 34 = .sl pr 0 xs.length 1 cap) (spr : obj S.o pr = some (.arr (ints xs) gg gen)) (s35 : get S.t 35 = I xs.length) (s36 : get S.t 36 = I 0) (hx : xs.length ≤ 4000)
    {T' : List (Nat × T)} (hT : ∀ t, get T' t = .junk ∨ (get T' t = get S.t t ∧ ¬ rowMod t)) {l : List Code} {Q : Ex → St → Prop}
    (h : WalkL P m w0 F0 l ⟨T', setO om (.mp (mapC (mapAll ([], 0) xs 0).1) (mapAll ([], 0) xs 0).2) S.o, S.n⟩ Q) :
    WalkL P m w0 F0 (.block 0 (.loop (.seq (.region i7 #[c7] false) (.seq (.cond (.tmp 37) .skip (.exit 0)) (.seq (.block 1 (.seq (.region i8 #[p1, p2, p3, p4, p5] false) (.region i9 #[o1, o2, o3, o4, o5, o6, o7, o8, o9] false))) (.region i10 #[r1, r2] false))))) :: l) S Q := by
  intro K a hi R hR
  obtain ⟨gp1, gp2, gp3, gp4, gp5⟩ := gp
  have hsz := hi.size
  -- the map, the row
  have q8 := hi.tm 8
  rw [s8] at q8
  simp only [RT] at q8
  obtain ⟨bm, sh, hσ, e8⟩ := q8
  have hro := hi.oi.objs om _ _ som hσ
  simp only [RO] at hro
  obtain ⟨b', ents, z1, hF, hbase, hh, hre, _⟩ := hro
  obtain ⟨rfl, rfl⟩ := Prod.mk.inj (Option.some.inj z1)
  simp only [REs] at hre
  have e35 := hi.tm 35
  rw [s35] at e35
  have e35 := RT_int e35
  have e36 := hi.tm 36
  rw [s36] at e36
  have e36 := RT_int e36
  obtain ⟨A, c, e34, hcap, hA⟩ := own_slice hi s34 spr
  have hcell : ∀ i x, xs[i]? = some x → ∃ b sh, A = some ⟨b, sh, none⟩ ∧ b < K.w.heap.size ∧ b ≠ bm ∧ K.w.cell? ⟨b, sh + i, none⟩ = some (.int .i64 x) := by
    intro i x hix
    rcases hA with rfl | ⟨b, sh2, hs, rfl⟩
    · simp at hix
    · obtain ⟨q1, q2⟩ := hi.holds spr hs
      have il : i < xs.length := by rcases Nat.lt_or_ge i xs.length with h' | h'; exact h'; simp [h'] at hix
      have q3 := (q1 i (by simpa using il)).1
      refine ⟨b, sh2, rfl, q2, ?_, ?_⟩
      · rintro rfl
        simp [World.cell?, hh] at q3
      · rw [q3]
        simp only [List.getElem!_toArray]
        rw [List.getElem!_eq_getElem?_getD, hix]; rfl
  refine wp_block (wp_loop_n (fun k a' w' => ∃ (i : Nat) (es : List RowE) (cl : Nat), i + k = xs.length + 1 ∧ i ≤ xs.length ∧ ActEq rowMod a a' ∧ a'.tmps.getD 36 undef = .int .i64 i ∧ Keeps bm K.w w' ∧ MapSt w' K.w.heap.size bm es cl ∧ (es.map Prod.fst, cl) = mapAll ([], 0) (xs.take i) 0 ∧ ∀ e ∈ es, e.1.2.1.length ≤ i) ?_ ?_ (k := xs.length + 1) ⟨0, [], 0, by omega, by omega, ActEq.refl _ _, e36, Keeps.refl _ _, ⟨by rw [hh]; congr 2; exact Array.toList_inj.1 hre, fun e he => by simp at he, List.nodup_nil, fun e he => by simp at he, heap_lt hh⟩, rfl, fun e he => by simp at he⟩)
  · rintro a' w' ⟨i, es, cl, hk, hi', _⟩
    omega
  · rintro k a' w' ⟨i, es, cl, hk, hile, hact, t36, hkeep, hms, hpure, hlen⟩
    have sz' : a'.tmps.size = m := hact.size.trans hsz
    have t35 : a'.tmps.getD 35 undef = .int .i64 xs.length := (hact.tm 35 (by unfold rowMod; omega)).trans e35
    have t34 : a'.tmps.getD 34 undef = .slice A xs.length c := (hact.tm 34 (by unfold rowMod; omega)).trans e34
    have t8 : a'.tmps.getD 8 undef = .map (some bm) := (hact.tm 8 (by unfold rowMod; omega)).trans e8
    have mk : ∀ d, rowMod d → d < a.tmps.size := fun d hd => by unfold rowMod at hd; omega
    refine wp_seq (wp_region_list ?_)
    refine wl_bin (u := .int .i64 i) (v := .int .i64 xs.length) (r := .bool (decide ((i : Int) < xs.length))) gc hc dc t36 t35 (bin_lss ..) ?_
    have hact1 := hact.put (d := 37) (v := .bool (decide ((i : Int) < xs.length))) (by unfold rowMod; omega) (mk 37 (by unfold rowMod; omega))
    show (Exit.then _ _) .normal _ w'
    show Code.wp P _ _ (a'.put (some 37) (.bool (decide ((i : Int) < xs.length)))) w'
    refine wp_seq ?_
    have t37 : (a'.put (some 37) (.bool (decide ((i : Int) < xs.length)))).eval (.tmp 37) = .bool (decide ((i : Int) < xs.length)) := getD_put1 (by rw [sz']; omega)
    refine wp_cond t37 ?_
    by_cases hlt : i < xs.length
    · rw [decide_eq_true (show (i : Int) < xs.length by omega)] at t37 hact1 ⊢
      rw [if_pos rfl]
      refine wp_skip ?_
      show Code.wp P _ _ (a'.put (some 37) (.bool true)) w'
      generalize ha1 : a'.put (some 37) (.bool true) = a1 at *
      have u36 : a1.tmps.getD 36 undef = .int .i64 i := by rw [← ha1, getD_put2 (by omega) (by omega)]; exact t36
      have u34 : a1.tmps.getD 34 undef = .slice A xs.length c := by rw [← ha1, getD_put2 (by omega) (by omega)]; exact t34
      obtain ⟨x, hxi⟩ : ∃ x, xs[i]? = some x := ⟨_, List.getElem?_eq_getElem hlt⟩
      obtain ⟨b, sh2, rfl, hbl, hbne, hcl⟩ := hcell i x hxi
      have hcl' : w'.cell? ⟨b, sh2 + i, none⟩ = some (.int .i64 x) := (cell_of_heap (hkeep.block b hbl hbne) _).trans hcl
      have sz1 : a1.tmps.size = m := hact1.size.trans hsz
      refine wp_seq (wp_block (wp_seq (wp_region_list ?_)))
      refine wl_move gp1 (.inl hp1) dp1 (show a1.eval (.tmp 36) = .int .i64 i from u36) ?_
      have B1 := hact1.put (d := 38) (v := .int .i64 i) (by unfold rowMod; omega) (mk 38 (by unfold rowMod; omega))
      refine wl_index (b := b) (off := sh2) (n := xs.length) (c := c) (k := i) gp2 hp2 dp2 ht.e ht.s ((getD_put2 (by omega) (by omega)).trans u34) ((getD_put2 (by omega) (by omega)).trans u36) (by omega) (by omega) ?_
      have B2 := B1.put (d := 39) (v := .pointer (some ⟨b, sh2 + (i : Int).toNat, none⟩)) (by unfold rowMod; omega) (mk 39 (by unfold rowMod; omega))
      refine wl_load (b := b) (off := sh2 + (i : Int).toNat) gp3 hp3 dp3 ht.a (getD_put1 (by simp only [put_size]; omega)) (by rw [Int.toNat_natCast]; exact hcl') ?_
      have B3 := B2.put (d := 40) (v := .int .i64 x) (by unfold rowMod; omega) (mk 40 (by unfold rowMod; omega))
      refine wl_move (v := .int .i64 i) gp4 (.inr hp4) dp4 (by
        show Array.getD _ _ _ = _
        rw [getD_put2 (by simp only [put_size]; omega) (by omega), getD_put2 (by simp only [put_size]; omega) (by omega), getD_put1 (by omega)]) ?_
      have B4 := B3.put (d := 9) (v := .int .i64 i) (by unfold rowMod; omega) (mk 9 (by unfold rowMod; omega))
      refine wl_move (v := .int .i64 x) gp5 (.inr hp5) dp5 (by
        show Array.getD _ _ _ = _
        rw [getD_put2 (by simp only [put_size]; omega) (by omega), getD_put1 (by simp only [put_size]; omega)]) ?_
      have B5 := B4.put (d := 10) (v := .int .i64 x) (by unfold rowMod; omega) (mk 10 (by unfold rowMod; omega))
      unfold wpList
      show Code.wp P _ _ _ w'
      refine wp_region_list ?_
      refine rows_r9 (k := (i : Int)) (x := x) ht g h1 d1 h2 d2 h3 d3 h4 d4 h5 d5 h6 d6 h7 d7 h8 d8 h9 d9 (by rw [B5.size]; omega) ((B5.tm 8 (by unfold rowMod; omega)).trans e8) (by rw [getD_put2 (by simp only [put_size]; omega) (by omega), getD_put1 (by simp only [put_size]; omega)]) (getD_put1 (by simp only [put_size]; omega)) hms hkeep.size (fun e he => by have := hlen e he; omega) ?_
      intro a9 w9 es9 cl9 hp9 hm9 hw9 hact9
      unfold wpList
      show Code.wp P _ _ a9 w9
      obtain ⟨w1, w2, w3, w4, w5⟩ := hw9
      have B9 : ActEq rowMod a a9 := ⟨hact9.size.trans B5.size, hact9.defers.trans B5.defers, fun t htm => (hact9.tm t (fun q => htm (by unfold rowMod; omega))).trans (B5.tm t htm)⟩
      have v36 : a9.tmps.getD 36 undef = .int .i64 i := by
        rw [hact9.tm 36 (by omega), getD_put2 (by simp only [put_size]; omega) (by omega), getD_put2 (by simp only [put_size]; omega) (by omega), getD_put2 (by simp only [put_size]; omega) (by omega), getD_put2 (by simp only [put_size]; omega) (by omega), getD_put2 (by omega) (by omega)]
        exact u36
      have sz9 : a9.tmps.size = m := B9.size.trans hsz
      refine wp_region_list ?_
      refine wl_bin (u := .int .i64 i) (v := .int .i64 1) (r := .int .i64 ((i + 1 : Nat) : Int)) gr1 hr1 dr1 v36 rfl (by
        have this : bin2 P .add te (.tmp 36) (.const (.int .i64 1)) (.c (.v (.int .i64 (i : Int)))) (.c (.v (.int .i64 1))) = some (.c (.v (.int .i64 (IntKind.i64.wrap ((i : Int) + 1))))) := bin_add ..
        rw [this]
        have e1 : IntKind.i64.wrap ((i : Int) + 1) = (i : Int) + 1 := w64 (by omega) (by omega)
        rw [e1]; rfl) ?_
      have C1 := B9.put (d := 49) (v := .int .i64 ((i + 1 : Nat) : Int)) (by unfold rowMod; omega) (mk 49 (by unfold rowMod; omega))
      refine wl_move gr2 (.inl hr2) dr2 (show Act.eval _ (.tmp 49) = _ from getD_put1 (by omega)) ?_
      have C2 := C1.put (d := 36) (v := .int .i64 ((i + 1 : Nat) : Int)) (by unfold rowMod; omega) (mk 36 (by unfold rowMod; omega))
      unfold wpList
      refine ⟨i + 1, es9, cl9, by omega, by omega, C2, getD_put1 (by simp only [put_size]; omega), ⟨w1.trans hkeep.os, w2.trans hkeep.tape, w3.trans hkeep.output, Nat.le_trans hkeep.size w4, fun k hk1 hk2 => (w5 k hk1 hk2).trans (hkeep.block k hk1 hk2)⟩, hm9, ?_, ?_⟩
      · rw [hp9, hpure, List.take_succ_eq_append_getElem hlt, mapAll_snoc]
        have : xs[i] = x := by rw [List.getElem?_eq_getElem hlt] at hxi; exact Option.some.inj hxi
        rw [this]
        congr 1
        simp; omega
      · intro e he
        have hl2 := mapIns_len (s := (es.map Prod.fst, cl)) (x := x) (k := (i : Int)) (i := i) (fun y hy => by
          obtain ⟨z, hz, rfl⟩ := List.mem_map.1 hy
          exact hlen z hz)
        rw [← hp9] at hl2
        exact hl2 e.1 (List.mem_map.2 ⟨e, he, rfl⟩)
    · rw [decide_eq_false (show ¬ (i : Int) < xs.length by omega)] at t37 hact1 ⊢
      rw [if_neg (by simp)]
      refine wp_exit ?_
      show Exit.inBlock 0 R (.exit 0) _ w'
      obtain rfl : i = xs.length := by omega
      rw [List.take_length] at hpure
      obtain ⟨K', hw, hinv⟩ := hi.rows som hσ hh hkeep hms hact1 hT
      have h' := hR .nor _ K' _ hinv (by
        have e1 : mapC (es.map Prod.fst) = mapC (mapAll ([], 0) xs 0).1 := by rw [← hpure]
        have e2 : cl = (mapAll ([], 0) xs 0).2 := by rw [← hpure]
        rw [e1, e2]; exact h)
      rw [hw] at h'
      exact h'
end
end Go.Proofs.Ytancjhajhdhfbaa.Tev
