/- A map whose values are rows of numbers that grow: one round, by hand. -/
import Derived.Test.YtancjhajhdhfbaaTevHand
namespace Go.Proofs.Ytancjhajhdhfbaa.Tev
open Go Go.RowKit Go.Proofs.Ytancjhajhdhfbaa.Q
set_option linter.unusedSectionVars false
set_option linter.unusedVariables false
set_option linter.unusedSimpArgs false
theorem RCs_ints {w : World} {F F' : Nat → Prop} {b : Nat} : ∀ {l : List Int} {o : Nat}, RCs w F b o (ints l) → RCs w F' b o (ints l)
  | [], o, _ => by simp only [ints, List.map_nil, RCs]
  | x :: l, o, h => by
    simp only [ints, List.map_cons, RCs] at h ⊢
    obtain ⟨⟨u, h1, h2⟩, h3⟩ := h
    exact ⟨⟨u, h1, by simpa only [RC] using h2⟩, RCs_ints (l := l) h3⟩
theorem RCs_ints_mono {w w' : World} {F F' : Nat → Prop} {b : Nat} (hb : w'.heap[b]? = w.heap[b]?) {l : List Int} {o : Nat} (h : RCs w F b o (ints l)) : RCs w' F' b o (ints l) :=
  RCs.mono (F := fun _ => False) (fun _ q => q.elim) (fun _ q => q.elim) b hb _ _ (RCs_ints h)
section
variable {P : Program} {ops : Array Oper} {Q : Exit → Act → World → Prop} {l : List Oper} {a : Act} {w : World}
theorem wl_val {o : Oper} {v : Value} {w' : World} (hg : o.guard = none) (hr : (execOp a.eval o).run P w = .ok (.value v) w') (hn : wpList P ops Q l (a.put o.dst v) w') : wpList P ops Q (o :: l) a w := by
  unfold wpList
  rw [if_pos (by simp [Region.wanted, hg])]
  refine .inl ?_
  unfold Oper.wp
  rw [hr]
  exact hn
theorem wl_skip {o : Oper} {w' : World} (hg : o.guard = none) (hr : (execOp a.eval o).run P w = .ok .skip w') (hn : wpList P ops Q l (a.put o.dst undef) w') : wpList P ops Q (o :: l) a w := by
  unfold wpList
  rw [if_pos (by simp [Region.wanted, hg])]
  refine .inl ?_
  unfold Oper.wp
  rw [hr]
  exact hn
theorem wl_move {o : Oper} {x : Operand} {d : Nat} {v : Value} (hg : o.guard = none) (ho : o.op = .move x ∨ o.op = .assign x) (hd : o.dst = some d) (hv : a.eval x = v) (hn : wpList P ops Q l (a.put (some d) v) w) : wpList P ops Q (o :: l) a w := by
  obtain ⟨dd, op, ty, pos, af, gg⟩ := o
  simp only at hd ho hg
  subst hd; subst hg; subst hv
  rcases ho with rfl | rfl
  · exact wl_val rfl rfl hn
  · exact wl_val rfl rfl hn
theorem wl_bin {o : Oper} {op : BinOp} {t t2 : TypeId} {x y : Operand} {d : Nat} {u v r : Value} (hg : o.guard = none) (ho : o.op = .binOp op t x y t2) (hd : o.dst = some d) (hx : a.eval x = u) (hy : a.eval y = v) (hb : bin2 P op t x y (.c (.v u)) (.c (.v v)) = some (.c (.v r))) (hn : wpList P ops Q l (a.put (some d) r) w) : wpList P ops Q (o :: l) a w := by
  obtain ⟨dd, op', ty, pos, af, gg⟩ := o
  simp only at hd ho hg
  subst hd; subst hg; subst ho
  unfold bin2 at hb
  simp only at hb
  obtain ⟨r', h1, h2⟩ := Option.bind_eq_some_iff.1 hb
  have h3 := RT_v (RT_ofV (K := ⟨w, fun _ => False, 0, fun _ => none⟩) h2)
  subst h3
  exact wl_val rfl (run_binOp op t x y t2 _ ty pos af none w hx hy h1) hn
theorem wl_index {o : Oper} {t e : TypeId} {y z : Operand} {d b off n c : Nat} {k : Int} (hg : o.guard = none) (ho : o.op = .indexAddr t y z) (hd : o.dst = some d) (he : elemOf P t = some e) (hs : szOf P e = some 1) (hy : a.eval y = .slice (some ⟨b, off, none⟩) n c) (hz : a.eval z = .int .i64 k) (h0 : 0 ≤ k) (h1 : k < n)
    (hn : wpList P ops Q l (a.put (some d) (.pointer (some ⟨b, off + k.toNat, none⟩))) w) : wpList P ops Q (o :: l) a w := by
  obtain ⟨dd, op', ty, pos, af, gg⟩ := o
  simp only at hd ho hg
  subst hd; subst hg; subst ho
  refine wl_val (v := .pointer (some ⟨b, off + k.toNat, none⟩)) rfl ?_ hn
  simp only [execOp]
  have := run_indexAt_slice (P := P) he hs b off n c .i64 k h0 h1 w
  rw [Nat.mul_one] at this
  rw [run_value, hy, hz, this]; rfl
theorem wl_load {o : Oper} {t : TypeId} {y : Operand} {d b off : Nat} {u : Value} (hg : o.guard = none) (ho : o.op = .load t y) (hd : o.dst = some d) (ha : aggOf P t = some false) (hy : a.eval y = .pointer (some ⟨b, off, none⟩)) (hc : w.cell? ⟨b, off, none⟩ = some u)
    (hn : wpList P ops Q l (a.put (some d) u) w) : wpList P ops Q (o :: l) a w := by
  obtain ⟨dd, op', ty, pos, af, gg⟩ := o
  simp only at hd ho hg
  subst hd; subst hg; subst ho
  refine wl_val (v := u) rfl ?_ hn
  simp only [execOp]
  rw [run_value, hy]
  have := run_loadVar_one (P := P) ha w b off u hc
  simp only [Instr.loadAt, Instr.sureAddr, bind, Pure.pure, Sem.bind, this, Result.andThen]
theorem wl_does {K : Ctx} {n : Nat} {ob : Nat → Option Ob} {o : Oper} {x : T} {nw : List Ob} {fz : List Nat} (hg : o.guard = none) (hw : K.w = w) (h : Does P K n ob a o x nw fz) (hn : ∀ val K', Step K n ob x nw fz K' val → wpList P ops Q l (a.put o.dst val) K'.w) : wpList P ops Q (o :: l) a w := by
  subst hw
  unfold wpList
  rw [if_pos (by simp [Region.wanted, hg])]
  exact .inl (h.wp hn)
/-- A row that has grown. -/
structure AppR (w w3 : World) (N0 : Nat) (ex : Nat → Prop) (l : List Int) (b sh c : Nat) : Prop where
  below : Below N0 w w3
  kept : ∀ q, q < w.heap.size → ¬ ex q → w3.heap[q]? = w.heap[q]?
  cells : ∃ cs t, w3.heap[b]? = some (.cells cs t (0, 0)) ∧ sh + c ≤ cs.size
  row : RCs w3 (fun _ => False) b sh (ints l)
  le : l.length ≤ c
  at_ : ex b ∨ w.heap.size ≤ b
  base : N0 ≤ b
theorem getD_put2 {a : Act} {d t : Nat} {v : Value} (hd : d < a.tmps.size) (h : t ≠ d) : (a.put (some d) v).tmps.getD t undef = a.tmps.getD t undef := by
  rw [getD_put _ _ _ _ hd, if_neg (fun e => h e.symm)]
theorem getD_put1 {a : Act} {d : Nat} {v : Value} (hd : d < a.tmps.size) : (a.put (some d) v).tmps.getD d undef = v := by
  rw [getD_put _ _ _ _ hd, if_pos rfl]
theorem build1 {t e : TypeId} (he : elemOf P t = some e) (hs : szOf P e = some 1) (hz : zeroOf P e = some [I 0]) (S : St) (k : Int) : buildSliceT P S t 1 [(0, I k)] = some (.sl S.n 0 1 1 (some 1), [.arr [CI k] S.n 1], []) := by
  unfold buildSliceT
  rw [he, Option.bind_some, hs, Option.bind_some, hz, Option.bind_some, if_pos ⟨by omega, rfl⟩]
  rfl
theorem get_cons1 (k t : Nat) (x : T) (r : List (Nat × T)) : get ((k, x) :: r) t = if k = t then x else get r t := rfl
/-- A literal of one number, appended to a row of this call's own. -/
theorem wl_app_row {o1 o2 : Oper} {t e : TypeId} {tx ty d1 d2 N0 : Nat} {k : Int} (g1 : o1.guard = none) (g2 : o2.guard = none) (h1 : o1.op = .buildSlice t 1 #[(0, .tmp tx)]) (hd1 : o1.dst = some d1) (h2 : o2.op = .call ⟨.builtin .append, #[.tmp ty, .tmp d1], #[t, t]⟩) (hd2 : o2.dst = some d2)
    (he : elemOf P t = some e) (hs : szOf P e = some 1) (hB : bytesOf P e = some 8) (hz : zeroOf P e = some [I 0]) (hx : a.tmps.getD tx undef = .int .i64 k) (hne : ty ≠ d1) (hne2 : tx ≠ ty) (hlt : d1 < a.tmps.size) (hN : N0 ≤ w.heap.size)
    {xs : List Int} (hxs : (xs.length + 1) * 8 ≤ 140737488355328) {b sh c : Nat} {cs : Array Value} {te : TypeId} (hv : a.tmps.getD ty undef = .slice (some ⟨b, sh, none⟩) xs.length c) (hc : xs.length ≤ c) (hh : w.heap[b]? = some (.cells cs te (0, 0))) (hroom : sh + c ≤ cs.size) (hr : RCs w (fun _ => False) b sh (ints xs)) (hb : N0 ≤ b)
    (hn : ∀ b' sh' c' w3 v1, AppR w w3 N0 (fun q => q = b) (xs ++ [k]) b' sh' c' → wpList P ops Q l ((a.put (some d1) v1).put (some d2) (.slice (some ⟨b', sh', none⟩) (xs.length + 1) c')) w3) : wpList P ops Q (o1 :: o2 :: l) a w := by
  have hbl := heap_lt hh
  let K1 : Ctx := ⟨w, fun q => q < w.heap.size ∧ q ≠ b, N0, fun o => if o = 0 then some (some (b, sh)) else none⟩
  have hg1 : Good K1 := ⟨fun b hb => hb.1, hN⟩
  let S1 : St := ⟨[(tx, I k), (ty, .sl 0 0 xs.length 1 none)], [(0, .arr (ints xs) 0 1)], 1⟩
  have hobj1 : ∀ o x s, obj S1.o o = some x → K1.σ o = some s → RO K1 s x := by
    intro o x s ho hs'
    by_cases h0 : o = 0
    · subst h0
      obtain rfl := Option.some.inj ho
      have hs'' : (if (0 : Nat) = 0 then some (some (b, sh)) else none) = some s := hs'
      obtain rfl := Option.some.inj hs''
      simp only [RO]
      exact .inr ⟨b, sh, cs, te, rfl, fun q => q.2 rfl, hb, hh, RCs_ints hr⟩
    · have : obj S1.o o = none := by show (if 0 = o then _ else _) = _; rw [if_neg (fun q => h0 q.symm)]; rfl
      rw [this] at ho; simp at ho
  obtain ⟨dd1, op1, ty1, pos1, af1, gg1⟩ := o1
  obtain ⟨dd2, op2, ty2, pos2, af2, gg2⟩ := o2
  simp only at g1 g2 h1 h2 hd1 hd2
  subst g1; subst g2; subst h1; subst h2; subst hd1; subst hd2
  have hb1 := build1 he hs hz S1 k
  have hσ1 : K1.σ 1 = none := rfl
  have hbS := buildSlice_sound (P := P) (a := a) hg1 hobj1 (n := 1) hσ1 t 1 #[(0, .tmp tx)] (some d1) ty1 pos1 af1 none (S := S1) rfl rfl (fun p hp => by
    simp at hp; subst hp
    show RT K1 (get S1.t tx) (a.tmps.getD tx undef)
    rw [hx, show get S1.t tx = I k from if_pos rfl]
    simp [RT, RC, flat]) (show buildSliceT P S1 t 1 [(0, get S1.t tx)] = _ by rw [show get S1.t tx = I k from if_pos rfl]; exact hb1)
  refine wl_does rfl rfl hbS fun v1 K2 st1 => ?_
  have kept1 : ∀ q, q < w.heap.size → K2.w.heap[q]? = w.heap[q]? := by
    rcases st1.kept with h | ⟨_, _, _, _, gen, _, _, _, _, _, _, h, _, h0, _⟩
    · exact h
    · simp [S1] at h; omega
  have hF2 : ∀ q, K2.F q → q ≠ b := by
    rintro q hq rfl
    rcases st1.F q hq with h | h | ⟨_, _, _, _, _, _, h, _⟩
    · exact h.2 rfl
    · have : w.heap.size ≤ q := h.1; omega
    · simp at h
  have hσ0 : K2.σ 0 = some (some (b, sh)) := st1.ext.σ 0 _ rfl
  have hσ2 : K2.σ 2 = none := by
    cases h : K2.σ 2 with
    | none => rfl
    | some s =>
      rcases st1.dom 2 s h with h | ⟨i, h1, h2⟩
      · have h : (if (2 : Nat) = 0 then some (some (b, sh)) else none) = some s := h
        simp at h
      · simp at h1; omega
  have hg2 := hg1.step hobj1 st1
  have hbase2 : K2.base = N0 := st1.ext.base
  obtain ⟨s1, hs1, hro1⟩ := st1.new 0 (.arr [CI k] 1 1) rfl
  have hsz1 : w.heap.size ≤ K2.w.heap.size := st1.below.size
  let S2 : St := ⟨[(d1, .sl 1 0 1 1 (some 1)), (ty, .sl 0 0 xs.length 1 none)], [(1, .arr [CI k] 1 1), (0, .arr (ints xs) 0 1)], 2⟩
  have hobj2 : ∀ o x s, obj S2.o o = some x → K2.σ o = some s → RO K2 s x := by
    intro o x s ho hs'
    by_cases h1 : o = 1
    · subst h1
      obtain rfl := Option.some.inj ho
      have : K2.σ 1 = some s1 := hs1
      rw [hs'] at this; obtain rfl := Option.some.inj this
      exact hro1
    · by_cases h0 : o = 0
      · subst h0
        obtain rfl := Option.some.inj ho
        rw [hσ0] at hs'; obtain rfl := Option.some.inj hs'
        simp only [RO]
        exact .inr ⟨b, sh, cs, te, rfl, fun q => hF2 b q rfl, by rw [hbase2]; exact hb, (kept1 b hbl).trans hh, RCs_ints_mono (kept1 b hbl) hr⟩
      · have : obj S2.o o = none := by show (if 1 = o then _ else if 0 = o then _ else _) = _; rw [if_neg (fun q => h1 q.symm), if_neg (fun q => h0 q.symm)]; rfl
        rw [this] at ho; simp at ho
  have hap : appendT P S2 e (.sl 0 0 xs.length 1 none) (.sl 1 0 1 1 (some 1)) = some (.sl 2 0 (xs.length + 1) 1 none, [.arr (ints xs ++ [CI k]) 0 2]) := by
    unfold appendT
    rw [hs, Option.bind_some, hB, Option.bind_some, hz, Option.bind_some]
    show (if ([CI k] : List C).length = 1 * 1 ∧ [I 0].length = 1 ∧ 0 < 8 then (if (ints xs).length = xs.length * 1 ∧ 1 = 1 ∧ 0 < 1 ∧ tipOk 0 1 S2.o = true then app1 2 xs.length 1 8 1 (ints xs) [CI k] 0 (1 + 1) else none) else none) = _
    rw [if_pos ⟨rfl, rfl, by omega⟩, if_pos ⟨by simp [ints], rfl, by omega, rfl⟩]
    unfold app1
    rw [if_pos hxs]
  have hv2 : (a.put (some d1) v1).tmps.getD ty undef = .slice (some ⟨b, sh, none⟩) xs.length c := (getD_put2 hlt hne).trans hv
  have hv3 : (a.put (some d1) v1).tmps.getD d1 undef = v1 := getD_put1 hlt
  have hA := append_sound (P := P) (a := a.put (some d1) v1) hg2 hobj2 (n := 2) hσ2 (ats := #[t, t]) rfl he rfl he (.tmp ty) (.tmp d1) (some d2) ty2 pos2 af2 none (S := S2) rfl rfl (by
    show RT K2 (get S2.t ty) _
    rw [show get S2.t ty = .sl 0 0 xs.length 1 none by show (if d1 = ty then _ else if ty = ty then _ else _) = _; rw [if_neg (fun q => hne q.symm), if_pos rfl]]
    show RT K2 _ ((a.put (some d1) v1).tmps.getD ty undef)
    rw [hv2]
    simp only [RT]
    exact ⟨_, c, rfl, hc, fun k hk => by simp at hk, .inr ⟨b, sh, hσ0, rfl, cs, te, (0, 0), (kept1 b hbl).trans hh, by omega⟩⟩) (by
    show RT K2 (get S2.t d1) _
    rw [show get S2.t d1 = .sl 1 0 1 1 (some 1) from if_pos rfl]
    show RT K2 _ ((a.put (some d1) v1).tmps.getD d1 undef)
    rw [hv3]
    exact st1.val) (show appendT P S2 e (get S2.t ty) (get S2.t d1) = _ by
    rw [show get S2.t d1 = .sl 1 0 1 1 (some 1) from if_pos rfl, show get S2.t ty = .sl 0 0 xs.length 1 none by show (if d1 = ty then _ else if ty = ty then _ else _) = _; rw [if_neg (fun q => hne q.symm), if_pos rfl]]
    exact hap)
  refine wl_does rfl rfl hA fun v2 K3 st2 => ?_
  have only : ∀ o l' g gen, obj S2.o o = some (.arr l' g gen) → [Ob.arr (ints xs ++ [CI k]) 0 2] = [.arr l' g (gen + 1)] ∨ g = 0 → g = 0 → o = 0 := by
    intro o l' g gen ho _ hg
    by_cases h1 : o = 1
    · subst h1
      have := Option.some.inj ho
      simp at this; omega
    · by_cases h0 : o = 0
      · exact h0
      · have : obj S2.o o = none := by show (if 1 = o then _ else if 0 = o then _ else _) = _; rw [if_neg (fun q => h1 q.symm), if_neg (fun q => h0 q.symm)]; rfl
        rw [this] at ho; simp at ho
  have hval := st2.val
  simp only [RT] at hval
  obtain ⟨A, c', rfl, hc', _, hp⟩ := hval
  rcases hp with ⟨h0, _⟩ | ⟨b', sh', hσ, rfl, cs', te', fr', hh', hroom'⟩
  · omega
  obtain ⟨s2, hs2, hro2⟩ := st2.new 0 _ rfl
  have hs2 : K3.σ 2 = some s2 := hs2
  rw [hσ] at hs2
  obtain rfl := Option.some.inj hs2
  simp only [RO] at hro2
  rcases hro2 with ⟨q, _⟩ | ⟨b2, sh2, cs2, te2, q1, q2, q3, q4, q5⟩
  · simp at q
  obtain ⟨rfl, rfl⟩ := Prod.mk.inj (Option.some.inj q1)
  rw [hh'] at q4
  simp only [Option.some.injEq, Obj.cells.injEq] at q4
  obtain ⟨rfl, rfl, rfl⟩ := q4
  refine hn b' sh' c' K3.w v1 {
    below := st1.below.trans (by have := st2.below; rw [hbase2] at this; exact this)
    kept := fun q hq hqe => ?_
    cells := ⟨cs', te', hh', by omega⟩
    row := ?_
    le := by simp; omega
    at_ := ?_
    base := ?_ }
  · rw [← kept1 q hq]
    rcases st2.kept with h | ⟨o, l0, l', g, gen, b3, sh3, _, _, _, _, e1, e2, e3, e4, e5, _⟩
    · exact h q (by omega)
    · refine e5 q (by omega) ?_
      rintro rfl
      simp at e1
      have ho := only o l0 g gen e2 (.inr (by omega)) (by omega)
      subst ho
      rw [hσ0] at e4
      simp at e4
      exact hqe e4.1.symm
  · have : ints (xs ++ [k]) = ints xs ++ [CI k] := by simp [ints]
    rw [this]; rw [← this] at q5 ⊢
    exact RCs_ints q5
  · rcases st2.place 0 b' sh' (by simp) hσ with h | ⟨o, l0, l', g, gen, _, e1, e2, e3, e4, _⟩
    · exact .inr (by have := h.1; omega)
    · simp at e1
      have ho := only o l0 g gen e2 (.inr (by omega)) (by omega)
      subst ho
      rw [hσ0] at e4
      simp at e4
      exact .inl e4.1.symm
  · rw [← hbase2, ← st2.ext.base]; exact q3
/-- .. and to nil. -/
theorem wl_app_nil {o1 o2 : Oper} {t e : TypeId} {tx ty d1 d2 N0 : Nat} {k : Int} (g1 : o1.guard = none) (g2 : o2.guard = none) (h1 : o1.op = .buildSlice t 1 #[(0, .tmp tx)]) (hd1 : o1.dst = some d1) (h2 : o2.op = .call ⟨.builtin .append, #[.tmp ty, .tmp d1], #[t, t]⟩) (hd2 : o2.dst = some d2)
    (he : elemOf P t = some e) (hs : szOf P e = some 1) (hB : bytesOf P e = some 8) (hz : zeroOf P e = some [I 0]) (hx : a.tmps.getD tx undef = .int .i64 k) (hne : ty ≠ d1) (hne2 : tx ≠ ty) (hlt : d1 < a.tmps.size) (hN : N0 ≤ w.heap.size)
    (hv : a.tmps.getD ty undef = .slice none 0 0)
    (hn : ∀ b' sh' c' w3 v1, AppR w w3 N0 (fun _ => False) [k] b' sh' c' → wpList P ops Q l ((a.put (some d1) v1).put (some d2) (.slice (some ⟨b', sh', none⟩) 1 c')) w3) : wpList P ops Q (o1 :: o2 :: l) a w := by
  let K1 : Ctx := ⟨w, fun q => q < w.heap.size, N0, fun o => none⟩
  have hg1 : Good K1 := ⟨fun b hb => hb, hN⟩
  let S1 : St := ⟨[(tx, I k), (ty, .c (.s (some 0) 0 []))], [], 0⟩
  have hobj1 : ∀ o x s, obj S1.o o = some x → K1.σ o = some s → RO K1 s x := fun o x s ho _ => by simp [S1, obj] at ho
  obtain ⟨dd1, op1, ty1, pos1, af1, gg1⟩ := o1
  obtain ⟨dd2, op2, ty2, pos2, af2, gg2⟩ := o2
  simp only at g1 g2 h1 h2 hd1 hd2
  subst g1; subst g2; subst h1; subst h2; subst hd1; subst hd2
  have hb1 := build1 he hs hz S1 k
  have hbS := buildSlice_sound (P := P) (a := a) hg1 hobj1 (n := 0) rfl t 1 #[(0, .tmp tx)] (some d1) ty1 pos1 af1 none (S := S1) rfl rfl (fun p hp => by
    simp at hp; subst hp
    show RT K1 (get S1.t tx) (a.tmps.getD tx undef)
    rw [hx, show get S1.t tx = I k from if_pos rfl]
    simp [RT, RC, flat]) (show buildSliceT P S1 t 1 [(0, get S1.t tx)] = _ by rw [show get S1.t tx = I k from if_pos rfl]; exact hb1)
  refine wl_does rfl rfl hbS fun v1 K2 st1 => ?_
  have kept1 : ∀ q, q < w.heap.size → K2.w.heap[q]? = w.heap[q]? := by
    rcases st1.kept with h | ⟨_, _, _, _, gen, _, _, _, _, _, _, h, _, h0, _⟩
    · exact h
    · simp [S1] at h; omega
  have hσ1 : K2.σ 1 = none := by
    cases h : K2.σ 1 with
    | none => rfl
    | some s =>
      rcases st1.dom 1 s h with h | ⟨i, h1, h2⟩
      · have h : (none : Option (Option (Nat × Nat))) = some s := h
        simp at h
      · simp at h1; omega
  have hg2 := hg1.step hobj1 st1
  have hbase2 : K2.base = N0 := st1.ext.base
  obtain ⟨s1, hs1, hro1⟩ := st1.new 0 (.arr [CI k] 0 1) rfl
  have hsz1 : w.heap.size ≤ K2.w.heap.size := st1.below.size
  let S2 : St := ⟨[(d1, .sl 0 0 1 1 (some 1)), (ty, .c (.s (some 0) 0 []))], [(0, .arr [CI k] 0 1)], 1⟩
  have hobj2 : ∀ o x s, obj S2.o o = some x → K2.σ o = some s → RO K2 s x := by
    intro o x s ho hs'
    by_cases h1 : o = 0
    · subst h1
      obtain rfl := Option.some.inj ho
      have : K2.σ 0 = some s1 := hs1
      rw [hs'] at this; obtain rfl := Option.some.inj this
      exact hro1
    · have : obj S2.o o = none := by show (if 0 = o then _ else _) = _; rw [if_neg (fun q => h1 q.symm)]; rfl
      rw [this] at ho; simp at ho
  have hap : appendT P S2 e (.c (.s (some 0) 0 [])) (.sl 0 0 1 1 (some 1)) = some (.sl 1 0 1 1 none, [.arr [CI k] 1 1]) := by
    unfold appendT
    rw [hs, Option.bind_some, hB, Option.bind_some, hz, Option.bind_some]
    show (if ([CI k] : List C).length = 1 * 1 ∧ [I 0].length = 1 ∧ 0 < 8 then app1 1 0 1 8 1 [] [CI k] 1 1 else none) = _
    rw [if_pos ⟨rfl, rfl, by omega⟩]
    unfold app1
    rw [if_pos (by omega)]
    rfl
  have hv2 : (a.put (some d1) v1).tmps.getD ty undef = .slice none 0 0 := (getD_put2 hlt hne).trans hv
  have hv3 : (a.put (some d1) v1).tmps.getD d1 undef = v1 := getD_put1 hlt
  have hA := append_sound (P := P) (a := a.put (some d1) v1) hg2 hobj2 (n := 1) hσ1 (ats := #[t, t]) rfl he rfl he (.tmp ty) (.tmp d1) (some d2) ty2 pos2 af2 none (S := S2) rfl rfl (by
    show RT K2 (get S2.t ty) _
    rw [show get S2.t ty = .c (.s (some 0) 0 []) by show (if d1 = ty then _ else if ty = ty then _ else _) = _; rw [if_neg (fun q => hne q.symm), if_pos rfl]]
    show RT K2 _ ((a.put (some d1) v1).tmps.getD ty undef)
    rw [hv2]
    simp only [RT, RC]
    exact ⟨none, 0, rfl, Nat.le_refl _, fun k hk => by simp at hk; exact hk, .inl ⟨trivial, trivial⟩⟩) (by
    show RT K2 (get S2.t d1) _
    rw [show get S2.t d1 = .sl 0 0 1 1 (some 1) from if_pos rfl]
    show RT K2 _ ((a.put (some d1) v1).tmps.getD d1 undef)
    rw [hv3]
    exact st1.val) (show appendT P S2 e (get S2.t ty) (get S2.t d1) = _ by
    rw [show get S2.t d1 = .sl 0 0 1 1 (some 1) from if_pos rfl, show get S2.t ty = .c (.s (some 0) 0 []) by show (if d1 = ty then _ else if ty = ty then _ else _) = _; rw [if_neg (fun q => hne q.symm), if_pos rfl]]
    exact hap)
  refine wl_does rfl rfl hA fun v2 K3 st2 => ?_
  have hval := st2.val
  simp only [RT] at hval
  obtain ⟨A, c', rfl, hc', _, hp⟩ := hval
  rcases hp with ⟨h0, _⟩ | ⟨b', sh', hσ, rfl, cs', te', fr', hh', hroom'⟩
  · omega
  obtain ⟨s2, hs2, hro2⟩ := st2.new 0 _ rfl
  have hs2 : K3.σ 1 = some s2 := hs2
  rw [hσ] at hs2
  obtain rfl := Option.some.inj hs2
  simp only [RO] at hro2
  rcases hro2 with ⟨q, _⟩ | ⟨b2, sh2, cs2, te2, q1, q2, q3, q4, q5⟩
  · simp at q
  obtain ⟨rfl, rfl⟩ := Prod.mk.inj (Option.some.inj q1)
  rw [hh'] at q4
  simp only [Option.some.injEq, Obj.cells.injEq] at q4
  obtain ⟨rfl, rfl, rfl⟩ := q4
  refine hn b' sh' c' K3.w v1 {
    below := st1.below.trans (by have := st2.below; rw [hbase2] at this; exact this)
    kept := fun q hq hqe => ?_
    cells := ⟨cs', te', hh', by omega⟩
    row := RCs_ints (l := [k]) q5
    le := by simp; omega
    at_ := ?_
    base := ?_ }
  · rw [← kept1 q hq]
    rcases st2.kept with h | ⟨o, l0, l', g, gen, b3, sh3, _, _, _, _, e1, e2, e3, e4, e5, _⟩
    · exact h q (by omega)
    · simp at e1; omega
  · rcases st2.place 0 b' sh' (by simp) hσ with h | ⟨o, l0, l', g, gen, _, e1, e2, e3, e4, _⟩
    · exact .inr (by have := h.1; omega)
    · simp at e1; omega
  · rw [← hbase2, ← st2.ext.base]; exact q3
end
end Go.Proofs.Ytancjhajhdhfbaa.Tev
