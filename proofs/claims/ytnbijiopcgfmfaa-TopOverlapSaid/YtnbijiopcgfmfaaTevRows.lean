/- A map whose values are rows of numbers that grow: one round, by hand. -/
import Derived.Test.YtnbijiopcgfmfaaTevHand
namespace Go.Proofs.Ytnbijiopcgfmfaa.Tev
open Go Go.RowKit Go.Proofs.Ytnbijiopcgfmfaa.Q
set_option linter.unusedSectionVars false
set_option linter.unusedVariables false
set_option linter.unusedSimpArgs false
theorem RCs_ints {w : World} {F F' : Nat → Prop} {b : Nat} : ∀ {l : List Int} {o : Nat}, RCs w F b o (ints l) → RCs w F' b o (ints l)
  | [], o, _ => by simp only [ints, List.map_nil, RCs]
  | x :: l, o, h => by
    simp only [ints, List.map_cons, RCs] at h ⊢
    obtain ⟨⟨u, h1, h2⟩, h3⟩ := h
    exact ⟨⟨u, h1, by simpa only [RC] using h2⟩, RCs_ints (l := l) h3⟩
theorem RCs_ints_mono {w w' : World} {F F' : Nat → Prop} {b : Nat} (hb : w'.heap[b]? = w.heap[b]?) {l : List Int} {o : Nat} (h : RCs w F b o (ints l)) : RCs w' F' b o (ints l) :=
  RCs.mono (F := fun _ => False) (fun _ q => q.elim) (fun _ q => q.elim) b hb _ _ (RCs_ints h)
section
variable {P : Program} {ops : Array Oper} {Q : Exit → Act → World → Prop} {l : List Oper} {a : Act} {w : World}
theorem wl_val {o : Oper} {v : Value} {w' : World} (hg : o.guard = none) (hr : (execOp a.eval o).run P w = .ok (.value v) w') (hn : wpList P ops Q l (a.put o.dst v) w') : wpList P ops Q (o :: l) a w := by
  unfold wpList
  rw [if_pos (by simp [Region.wanted, hg])]
  refine .inl ?_
  unfold Oper.wp
  rw [hr]
  exact hn
theorem wl_skip {o : Oper} {w' : World} (hg : o.guard = none) (hr : (execOp a.eval o).run P w = .ok .skip w') (hn : wpList P ops Q l (a.put o.dst undef) w') : wpList P ops Q (o :: l) a w := by
  unfold wpList
  rw [if_pos (by simp [Region.wanted, hg])]
  refine .inl ?_
  unfold Oper.wp
  rw [hr]
  exact hn
theorem wl_move {o : Oper} {x : Operand} {d : Nat} {v : Value} (hg : o.guard = none) (ho : o.op = .move x ∨ o.op = .assign x) (hd : o.dst = some d) (hv : a.eval x = v) (hn : wpList P ops Q l (a.put (some d) v) w) : wpList P ops Q (o :: l) a w := by
  obtain ⟨dd, op, ty, pos, af, gg⟩ := o
  simp only at hd ho hg
  subst hd; subst hg; subst hv
  rcases ho with rfl | rfl
  · exact wl_val rfl rfl hn
  · exact wl_val rfl rfl hn
theorem wl_bin {o : Oper} {op : BinOp} {t t2 : TypeId} {x y : Operand} {d : Nat} {u v r : Value} (hg : o.guard = none) (ho : o.op = .binOp op t x y t2) (hd : o.dst = some d) (hx : a.eval x = u) (hy : a.eval y = v) (hb : bin2 P op t x y (.c (.v u)) (.c (.v v)) = some (.c (.v r))) (hn : wpList P ops Q l (a.put (some d) r) w) : wpList P ops Q (o :: l) a w := by
  obtain ⟨dd, op', ty, pos, af, gg⟩ := o
  simp only at hd ho hg
  subst hd; subst hg; subst ho
  unfold bin2 at hb
  simp only at hb
  obtain ⟨r', h1, h2⟩ := Option.bind_eq_some_iff.1 hb
  have h3 := RT_v (RT_ofV (K := ⟨w, fun _ => False, 0, fun _ => none⟩) h2)
  subst h3
  exact wl_val rfl (run_binOp op t x y t2 _ ty pos af none w hx hy h1) hn
theorem wl_index {o : Oper} {t e : TypeId} {y z : Operand} {d b off n c : Nat} {k : Int} (hg : o.guard = none) (ho : o.op = .indexAddr t y z) (hd : o.dst = some d) (he : elemOf P t = some e) (hs : szOf P e = some 1) (hy : a.eval y = .slice (some ⟨b, off, none⟩) n c) (hz : a.eval z = .int .i64 k) (h0 : 0 ≤ k) (h1 : k < n)
    (hn : wpList P ops Q l (a.put (some d) (.pointer (some ⟨b, off + k.toNat, none⟩))) w) : wpList P ops Q (o :: l) a w := by
  obtain ⟨dd, op', ty, pos, af, gg⟩ := o
  simp only at hd ho hg
  subst hd; subst hg; subst ho
  refine wl_val (v := .pointer (some ⟨b, off + k.toNat, none⟩)) rfl ?_ hn
  simp only [execOp]
  have := run_indexAt_slice (P := P) he hs b off n c .i64 k h0 h1 w
  rw [Nat.mul_one] at this
  rw [run_value, hy, hz, this]; rfl
theorem wl_load {o : Oper} {t : TypeId} {y : Operand} {d b off : Nat} {u : Value} (hg : o.guard = none) (ho : o.op = .load t y) (hd : o.dst = some d) (ha : aggOf P t = some false) (hy : a.eval y = .pointer (some ⟨b, off, none⟩)) (hc : w.cell? ⟨b, off, none⟩ = some u)
    (hn : wpList P ops Q l (a.put (some d) u) w) : wpList P ops Q (o :: l) a w := by
  obtain ⟨dd, op', ty, pos, af, gg⟩ := o
  simp only at hd ho hg
  subst hd; subst hg; subst ho
  refine wl_val (v := u) rfl ?_ hn
  simp only [execOp]
  rw [run_value, hy]
  have := run_loadVar_one (P := P) ha w b off u hc
  simp only [Instr.loadAt, Instr.sureAddr, bind, Pure.pure, Sem.bind, this, Result.andThen]
theorem wl_does {K : Ctx} {n : Nat} {ob : Nat → Option Ob} {o : Oper} {x : T} {nw : List Ob} {fz : List Nat} (hg : o.guard = none) (hw : K.w = w) (h : Does P K n ob a o x nw fz) (hn : ∀ val K', Step K n ob x nw fz K' val → wpList P ops Q l (a.put o.dst val) K'.w) : wpList P ops Q (o :: l) a w := by
  subst hw
  unfold wpList
  rw [if_pos (by simp [Region.wanted, hg])]
  exact .inl (h.wp hn)
/-- A row that has grown. -/
structure AppR (w w3 : World) (N0 : Nat) (ex : Nat → Prop) (l : List Int) (b sh c : Nat) : Prop where
  below : Below N0 w w3
  kept : ∀ q, q < w.heap.size → ¬ ex q → w3.heap[q]? = w.heap[q]?
  cells : ∃ cs t, w3.heap[b]? = some (.cells cs t (0, 0)) ∧ sh + c ≤ cs.size
  row : RCs w3 (fun _ => False) b sh (ints l)
  le : l.length ≤ c
  at_ : ex b ∨ w.heap.size ≤ b
  base : N0 ≤ b
theorem getD_put2 {a : Act} {d t : Nat} {v : Value} (hd : d < a.tmps.size) (h : t ≠ d) : (a.put (some d) v).tmps.getD t undef = a.tmps.getD t undef := by
  rw [getD_put _ _ _ _ hd, if_neg (fun e => h e.symm)]
theorem getD_put1 {a : Act} {d : Nat} {v : Value} (hd : d < a.tmps.size) : (a.put (some d) v).tmps.getD d undef = v := by
  rw [getD_put _ _ _ _ hd, if_pos rfl]
theorem build1 {t e : TypeId} (he : elemOf P t = some e) (hs : szOf P e = some 1) (hz : zeroOf P e = some [I 0]) (S : St) (k : Int) : buildSliceT P S t 1 [(0, I k)] = some (.sl S.n 0 1 1 (some 1), [.arr [CI k] S.n 1], []) := by
  unfold buildSliceT
  rw [he, Option.bind_some, hs, Option.bind_some, hz, Option.bind_some, if_pos ⟨by omega, rfl⟩]
  rfl
theorem get_cons1 (k t : Nat) (x : T) (r : List (Nat × T)) : get ((k, x) :: r) t = if k = t then x else get r t := rfl
/-- A literal of one number, appended to a row of this call's own. -/
theorem wl_app_row {o1 o2 : Oper} {t e : TypeId} {tx ty d1 d2 N0 : Nat} {k : Int} (g1 : o1.guard = none) (g2 : o2.guard = none) (h1 : o1.op = .buildSlice t 1 #[(0, .tmp tx)]) (hd1 : o1.dst = some d1) (h2 : o2.op = .call ⟨.builtin .append, #[.tmp ty, .tmp d1], #[t, t]⟩) (hd2 : o2.dst = some d2)
    (he : elemOf P t = some e) (hs : szOf P e = some 1) (hB : bytesOf P e = some 8) (hz : zeroOf P e = some [I 0]) (hx : a.tmps.getD tx undef = .int .i64 k) (hne : ty ≠ d1) (hne2 : tx ≠ ty) (hlt : d1 < a.tmps.size) (hN : N0 ≤ w.heap.size)
    {xs : List Int} (hxs : (xs.length + 1) * 8 ≤ 140737488355328) {b sh c : Nat} {cs : Array Value} {te : TypeId} (hv : a.tmps.getD ty undef = .slice (some ⟨b, sh, none⟩) xs.length c) (hc : xs.length ≤ c) (hh : w.heap[b]? = some (.cells cs te (0, 0))) (hroom : sh + c ≤ cs.size) (hr : RCs w (fun _ => False) b sh (ints xs)) (hb : N0 ≤ b)
    (hn : ∀ b' sh' c' w3 v1, AppR w w3 N0 (fun q => q = b) (xs ++ [k]) b' sh' c' → wpList P ops Q l ((a.put (some d1) v1).put (some d2) (.slice (some ⟨b', sh', none⟩) (xs.length + 1) c')) w3) : wpList P ops Q (o1 :: o2 :: l) a w := by
  have hbl := heap_lt hh
  let K1 : Ctx := ⟨w, fun q => q < w.heap.size ∧ q ≠ b, N0, fun o => if o = 0 then some (some (b, sh)) else none⟩
  have hg1 : Good K1 := ⟨fun b hb => hb.1, hN⟩
  let S1 : St := ⟨[(tx, I k), (ty, .sl 0 0 xs.length 1 none)], [(0, .arr (ints xs) 0 1)], 1⟩
  have hobj1 : ∀ o x s, obj S1.o o = some x → K1.σ o = some s → RO K1 s x := by
    intro o x s ho hs'
    by_cases h0 : o = 0
    · subst h0
      obtain rfl := Option.some.inj ho
      have hs'' : (if (0 : Nat) = 0 then some (some (b, sh)) else none) = some s := hs'
      obtain rfl := Option.some.inj hs''
      simp only [RO]
      exact .inr ⟨b, sh, cs, te, rfl, fun q => q.2 rfl, hb, hh, RCs_ints hr⟩
    · have : obj S1.o o = none := by show (if 0 = o then _ else _) = _; rw [if_neg (fun q => h0 q.symm)]; rfl
      rw [this] at ho; simp at ho
  obtain ⟨dd1, op1, ty1, pos1, af1, gg1⟩ := o1
  obtain ⟨dd2, op2, ty2, pos2, af2, gg2⟩ := o2
  simp only at g1 g2 h1 h2 hd1 hd2
  subst g1; subst g2; subst h1; subst h2; subst hd1; subst hd2
  have hb1 := build1 he hs hz S1 k
  have hσ1 : K1.σ 1 = none := rfl
  have hbS := buildSlice_sound (P := P) (a := a) hg1 hobj1 (n := 1) hσ1 t 1 #[(0, .tmp tx)] (some d1) ty1 pos1 af1 none (S := S1) rfl rfl (fun p hp => by
    simp at hp; subst hp
    show RT K1 (get S1.t tx) (a.tmps.getD tx undef)
    rw [hx, show get S1.t tx = I k from if_pos rfl]
    simp [RT, RC, flat]) (show buildSliceT P S1 t 1 [(0, get S1.t tx)] = _ by rw [show get S1.t tx = I k from if_pos rfl]; exact hb1)
  refine wl_does rfl rfl hbS fun v1 K2 st1 => ?_
  have kept1 : ∀ q, q < w.heap.size → K2.w.heap[q]? = w.heap[q]? := by
    rcases st1.kept with h | ⟨_, _, _, _, gen, _, _, _, _, _, _, h, _, h0, _⟩
    · exact h
    · simp [S1] at h; omega
  have hF2 : ∀ q, K2.F q → q ≠ b := by
    rintro q hq rfl
    rcases st1.F q hq with h | h | ⟨_, _, _, _, _, _, h, _⟩
    · exact h.2 rfl
    · have : w.heap.size ≤ q := h.1; omega
    · simp at h
  have hσ0 : K2.σ 0 = some (some (b, sh)) := st1.ext.σ 0 _ rfl
  have hσ2 : K2.σ 2 = none := by
    cases h : K2.σ 2 with
    | none => rfl
    | some s =>
      rcases st1.dom 2 s h with h | ⟨i, h1, h2⟩
      · have h : (if (2 : Nat) = 0 then some (some (b, sh)) else none) = some s := h
        simp at h
      · simp at h1; omega
  have hg2 := hg1.step hobj1 st1
  have hbase2 : K2.base = N0 := st1.ext.base
  obtain ⟨s1, hs1, hro1⟩ := st1.new 0 (.arr [CI k] 1 1) rfl
  have hsz1 : w.heap.size ≤ K2.w.heap.size := st1.below.size
  let S2 : St := ⟨[(d1, .sl 1 0 1 1 (some 1)), (ty, .sl 0 0 xs.length 1 none)], [(1, .arr [CI k] 1 1), (0, .arr (ints xs) 0 1)], 2⟩
  have hobj2 : ∀ o x s, obj S2.o o = some x → K2.σ o = some s → RO K2 s x := by
    intro o x s ho hs'
    by_cases h1 : o = 1
    · subst h1
      obtain rfl := Option.some.inj ho
      have : K2.σ 1 = some s1 := hs1
      rw [hs'] at this; obtain rfl := Option.some.inj this
      exact hro1
    · by_cases h0 : o = 0
      · subst h0
        obtain rfl := Option.some.inj ho
        rw [hσ0] at hs'; obtain rfl := Option.some.inj hs'
        simp only [RO]
        exact .inr ⟨b, sh, cs, te, rfl, fun q => hF2 b q rfl, by rw [hbase2]; exact hb, (kept1 b hbl).trans hh, RCs_ints_mono (kept1 b hbl) hr⟩
      · have : obj S2.o o = none := by show (if 1 = o then _ else if 0 = o then _ else _) = _; rw [if_neg (fun q => h1 q.symm), if_neg (fun q => h0 q.symm)]; rfl
        rw [this] at ho; simp at ho
  have hap : appendT P S2 e (.sl 0 0 xs.length 1 none) (.sl 1 0 1 1 (some 1)) = some (.sl 2 0 (xs.length + 1) 1 none, [.arr (ints xs ++ [CI k]) 0 2]) := by
    unfold appendT
    rw [hs, Option.bind_some, hB, Option.bind_some, hz, Option.bind_some]
    show (if ([CI k] : List C).length = 1 * 1 ∧ [I 0].length = 1 ∧ 0 < 8 then (if (ints xs).length = xs.length * 1 ∧ 1 = 1 ∧ 0 < 1 ∧ tipOk 0 1 S2.o = true then app1 2 xs.length 1 8 1 (ints xs) [CI k] 0 (1 + 1) else none) else none) = _
    rw [if_pos ⟨rfl, rfl, by omega⟩, if_pos ⟨by simp [ints], rfl, by omega, rfl⟩]
    unfold app1
    rw [if_pos hxs]
  have hv2 : (a.put (some d1) v1).tmps.getD ty undef = .slice (some ⟨b, sh, none⟩) xs.length c := (getD_put2 hlt hne).trans hv
  have hv3 : (a.put (some d1) v1).tmps.getD d1 undef = v1 := getD_put1 hlt
  have hA := append_sound (P := P) (a := a.put (some d1) v1) hg2 hobj2 (n := 2) hσ2 (ats := #[t, t]) rfl he rfl he (.tmp ty) (.tmp d1) (some d2) ty2 pos2 af2 none (S := S2) rfl rfl (by
    show RT K2 (get S2.t ty) _
    rw [show get S2.t ty = .sl 0 0 xs.length 1 none by show (if d1 = ty then _ else if ty = ty then _ else _) = _; rw [if_neg (fun q => hne q.symm), if_pos rfl]]
    show RT K2 _ ((a.put (some d1) v1).tmps.getD ty undef)
    rw [hv2]
    simp only [RT]
    exact ⟨_, c, rfl, hc, fun k hk => by simp at hk, .inr ⟨b, sh, hσ0, rfl, cs, te, (0, 0), (kept1 b hbl).trans hh, by omega⟩⟩) (by
    show RT K2 (get S2.t d1) _
    rw [show get S2.t d1 = .sl 1 0 1 1 (some 1) from if_pos rfl]
    show RT K2 _ ((a.put (some d1) v1).tmps.getD d1 undef)
    rw [hv3]
    exact st1.val) (show appendT P S2 e (get S2.t ty) (get S2.t d1) = _ by
    rw [show get S2.t d1 = .sl 1 0 1 1 (some 1) from if_pos rfl, show get S2.t ty = .sl 0 0 xs.length 1 none by show (if d1 = ty then _ else if ty = ty then _ else _) = _; rw [if_neg (fun q => hne q.symm), if_pos rfl]]
    exact hap)
  refine wl_does rfl rfl hA fun v2 K3 st2 => ?_
  have only : ∀ o l' g gen, obj S2.o o = some (.arr l' g gen) → [Ob.arr (ints xs ++ [CI k]) 0 2] = [.arr l' g (gen + 1)] ∨ g = 0 → g = 0 → o = 0 := by
    intro o l' g gen ho _ hg
    by_cases h1 : o = 1
    · subst h1
      have := Option.some.inj ho
      simp at this; omega
    · by_cases h0 : o = 0
      · exact h0
      · have : obj S2.o o = none := by show (if 1 = o then _ else if 0 = o then _ else _) = _; rw [if_neg (fun q => h1 q.symm), if_neg (fun q => h0 q.symm)]; rfl
        rw [this] at ho; simp at ho
  have hval := st2.val
  simp only [RT] at hval
  obtain ⟨A, c', rfl, hc', _, hp⟩ := hval
  rcases hp with ⟨h0, _⟩ | ⟨b', sh', hσ, rfl, cs', te', fr', hh', hroom'⟩
  · omega
  obtain ⟨s2, hs2, hro2⟩ := st2.new 0 _ rfl
  have hs2 : K3.σ 2 = some s2 := hs2
  rw [hσ] at hs2
  obtain rfl := Option.some.inj hs2
  simp only [RO] at hro2
  rcases hro2 with ⟨q, _⟩ | ⟨b2, sh2, cs2, te2, q1, q2, q3, q4, q5⟩
  · simp at q
  obtain ⟨rfl, rfl⟩ := Prod.mk.inj (Option.some.inj q1)
  rw [hh'] at q4
  simp only [Option.some.injEq, Obj.cells.injEq] at q4
  obtain ⟨rfl, rfl, rfl⟩ := q4
  refine hn b' sh' c' K3.w v1 {
    below := st1.below.trans (by have := st2.below; rw [hbase2] at this; exact this)
    kept := fun q hq hqe => ?_
    cells := ⟨cs', te', hh', by omega⟩
    row := ?_
    le := by simp; omega
    at_ := ?_
    base := ?_ }
  · rw [← kept1 q hq]
    rcases st2.kept with h | ⟨o, l0, l', g, gen, b3, sh3, _, _, _, _, e1, e2, e3, e4, e5, _⟩
    · exact h q (by omega)
    · refine e5 q (by omega) ?_
      rintro rfl
      simp at e1
      have ho := only o l0 g gen e2 (.inr (by omega)) (by omega)
      subst ho
      rw [hσ0] at e4
      simp at e4
      exact hqe e4.1.symm
  · have : ints (xs ++ [k]) = ints xs ++ [CI k] := by simp [ints]
    rw [this]; rw [← this] at q5 ⊢
    exact RCs_ints q5
  · rcases st2.place 0 b' sh' (by simp) hσ with h | ⟨o, l0, l', g, gen, _, e1, e2, e3, e4, _⟩
    · exact .inr (by have := h.1; omega)
    · simp at e1
      have ho := only o l0 g gen e2 (.inr (by omega)) (by omega)
      subst ho
      rw [hσ0] at e4
      simp at e4
      exact .inl e4.1.symm
  · rw [← hbase2, ← st2.ext.base]; exact q3
/-- .. and to nil. -/
theorem wl_app_nil {o1 o2 : Oper} {t e : TypeId} {tx ty d1 d2 N0 : Nat} {k : Int} (g1 : o1.guard = none) (g2 : o2.guard = none) (h1 : o1.op = .buildSlice t 1 #[(0, .tmp tx)]) (hd1 : o1.dst = some d1) (h2 : o2.op = .call ⟨.builtin .append, #[.tmp ty, .tmp d1], #[t, t]⟩) (hd2 : o2.dst = some d2)
    (he : elemOf P t = some e) (hs : szOf P e = some 1) (hB : bytesOf P e = some 8) (hz : zeroOf P e = some [I 0]) (hx : a.tmps.getD tx undef = .int .i64 k) (hne : ty ≠ d1) (hne2 : tx ≠ ty) (hlt : d1 < a.tmps.size) (hN : N0 ≤ w.heap.size)
    (hv : a.tmps.getD ty undef = .slice none 0 0)
    (hn : ∀ b' sh' c' w3 v1, AppR w w3 N0 (fun _ => False) [k] b' sh' c' → wpList P ops Q l ((a.put (some d1) v1).put (some d2) (.slice (some ⟨b', sh', none⟩) 1 c')) w3) : wpList P ops Q (o1 :: o2 :: l) a w := by
  let K1 : Ctx := ⟨w, fun q => q < w.heap.size, N0, fun o => none⟩
  have hg1 : Good K1 := ⟨fun b hb => hb, hN⟩
  let S1 : St := ⟨[(tx, I k), (ty, .c (.s (some 0) 0 []))], [], 0⟩
  have hobj1 : ∀ o x s, obj S1.o o = some x → K1.σ o = some s → RO K1 s x := fun o x s ho _ => by simp [S1, obj] at ho
  obtain ⟨dd1, op1, ty1, pos1, af1, gg1⟩ := o1
  obtain ⟨dd2, op2, ty2, pos2, af2, gg2⟩ := o2
  simp only at g1 g2 h1 h2 hd1 hd2
  subst g1; subst g2; subst h1; subst h2; subst hd1; subst hd2
  have hb1 := build1 he hs hz S1 k
  have hbS := buildSlice_sound (P := P) (a := a) hg1 hobj1 (n := 0) rfl t 1 #[(0, .tmp tx)] (some d1) ty1 pos1 af1 none (S := S1) rfl rfl (fun p hp => by
    simp at hp; subst hp
    show RT K1 (get S1.t tx) (a.tmps.getD tx undef)
    rw [hx, show get S1.t tx = I k from if_pos rfl]
    simp [RT, RC, flat]) (show buildSliceT P S1 t 1 [(0, get S1.t tx)] = _ by rw [show get S1.t tx = I k from if_pos rfl]; exact hb1)
  refine wl_does rfl rfl hbS fun v1 K2 st1 => ?_
  have kept1 : ∀ q, q < w.heap.size → K2.w.heap[q]? = w.heap[q]? := by
    rcases st1.kept with h | ⟨_, _, _, _, gen, _, _, _, _, _, _, h, _, h0, _⟩
    · exact h
    · simp [S1] at h; omega
  have hσ1 : K2.σ 1 = none := by
    cases h : K2.σ 1 with
    | none => rfl
    | some s =>
      rcases st1.dom 1 s h with h | ⟨i, h1, h2⟩
      · have h : (none : Option (Option (Nat × Nat))) = some s := h
        simp at h
      · simp at h1; omega
  have hg2 := hg1.step hobj1 st1
  have hbase2 : K2.base = N0 := st1.ext.base
  obtain ⟨s1, hs1, hro1⟩ := st1.new 0 (.arr [CI k] 0 1) rfl
  have hsz1 : w.heap.size ≤ K2.w.heap.size := st1.below.size
  let S2 : St := ⟨[(d1, .sl 0 0 1 1 (some 1)), (ty, .c (.s (some 0) 0 []))], [(0, .arr [CI k] 0 1)], 1⟩
  have hobj2 : ∀ o x s, obj S2.o o = some x → K2.σ o = some s → RO K2 s x := by
    intro o x s ho hs'
    by_cases h1 : o = 0
    · subst h1
      obtain rfl := Option.some.inj ho
      have : K2.σ 0 = some s1 := hs1
      rw [hs'] at this; obtain rfl := Option.some.inj this
      exact hro1
    · have : obj S2.o o = none := by show (if 0 = o then _ else _) = _; rw [if_neg (fun q => h1 q.symm)]; rfl
      rw [this] at ho; simp at ho
  have hap : appendT P S2 e (.c (.s (some 0) 0 [])) (.sl 0 0 1 1 (some 1)) = some (.sl 1 0 1 1 none, [.arr [CI k] 1 1]) := by
    unfold appendT
    rw [hs, Option.bind_some, hB, Option.bind_some, hz, Option.bind_some]
    show (if ([CI k] : List C).length = 1 * 1 ∧ [I 0].length = 1 ∧ 0 < 8 then app1 1 0 1 8 1 [] [CI k] 1 1 else none) = _
    rw [if_pos ⟨rfl, rfl, by omega⟩]
    unfold app1
    rw [if_pos (by omega)]
    rfl
  have hv2 : (a.put (some d1) v1).tmps.getD ty undef = .slice none 0 0 := (getD_put2 hlt hne).trans hv
  have hv3 : (a.put (some d1) v1).tmps.getD d1 undef = v1 := getD_put1 hlt
  have hA := append_sound (P := P) (a := a.put (some d1) v1) hg2 hobj2 (n := 1) hσ1 (ats := #[t, t]) rfl he rfl he (.tmp ty) (.tmp d1) (some d2) ty2 pos2 af2 none (S := S2) rfl rfl (by
    show RT K2 (get S2.t ty) _
    rw [show get S2.t ty = .c (.s (some 0) 0 []) by show (if d1 = ty then _ else if ty = ty then _ else _) = _; rw [if_neg (fun q => hne q.symm), if_pos rfl]]
    show RT K2 _ ((a.put (some d1) v1).tmps.getD ty undef)
    rw [hv2]
    simp only [RT, RC]
    exact ⟨none, 0, rfl, Nat.le_refl _, fun k hk => by simp at hk; exact hk, .inl ⟨trivial, trivial⟩⟩) (by
    show RT K2 (get S2.t d1) _
    rw [show get S2.t d1 = .sl 0 0 1 1 (some 1) from if_pos rfl]
    show RT K2 _ ((a.put (some d1) v1).tmps.getD d1 undef)
    rw [hv3]
    exact st1.val) (show appendT P S2 e (get S2.t ty) (get S2.t d1) = _ by
    rw [show get S2.t d1 = .sl 0 0 1 1 (some 1) from if_pos rfl, show get S2.t ty = .c (.s (some 0) 0 []) by show (if d1 = ty then _ else if ty = ty then _ else _) = _; rw [if_neg (fun q => hne q.symm), if_pos rfl]]
    exact hap)
  refine wl_does rfl rfl hA fun v2 K3 st2 => ?_
  have hval := st2.val
  simp only [RT] at hval
  obtain ⟨A, c', rfl, hc', _, hp⟩ := hval
  rcases hp with ⟨h0, _⟩ | ⟨b', sh', hσ, rfl, cs', te', fr', hh', hroom'⟩
  · omega
  obtain ⟨s2, hs2, hro2⟩ := st2.new 0 _ rfl
  have hs2 : K3.σ 1 = some s2 := hs2
  rw [hσ] at hs2
  obtain rfl := Option.some.inj hs2
  simp only [RO] at hro2
  rcases hro2 with ⟨q, _⟩ | ⟨b2, sh2, cs2, te2, q1, q2, q3, q4, q5⟩
  · simp at q
  obtain ⟨rfl, rfl⟩ := Prod.mk.inj (Option.some.inj q1)
  rw [hh'] at q4
  simp only [Option.some.injEq, Obj.cells.injEq] at q4
  obtain ⟨rfl, rfl, rfl⟩ := q4
  refine hn b' sh' c' K3.w v1 {
    below := st1.below.trans (by have := st2.below; rw [hbase2] at this; exact this)
    kept := fun q hq hqe => ?_
    cells := ⟨cs', te', hh', by omega⟩
    row := RCs_ints (l := [k]) q5
    le := by simp; omega
    at_ := ?_
    base := ?_ }
  · rw [← kept1 q hq]
    rcases st2.kept with h | ⟨o, l0, l', g, gen, b3, sh3, _, _, _, _, e1, e2, e3, e4, e5, _⟩
    · exact h q (by omega)
    · simp at e1; omega
  · rcases st2.place 0 b' sh' (by simp) hσ with h | ⟨o, l0, l', g, gen, _, e1, e2, e3, e4, _⟩
    · exact .inr (by have := h.1; omega)
    · simp at e1; omega
  · rw [← hbase2, ← st2.ext.base]; exact q3
end

/-- A key, its row, when it came; where the row lies. -/
abbrev RowP := Int × List Int × Nat
abbrev RowE := RowP × Nat × Nat × Nat
def entOf (e : RowE) : MapEntry := { key := .int .i64 e.1.1, val := .slice (some ⟨e.2.1, e.2.2.1, none⟩) e.1.2.1.length e.2.2.2, born := e.1.2.2 }
structure RowIn (w : World) (N0 : Nat) (e : RowE) : Prop where
  ge : N0 ≤ e.2.1
  cells : ∃ cs t, w.heap[e.2.1]? = some (.cells cs t (0, 0)) ∧ e.2.2.1 + e.2.2.2 ≤ cs.size
  row : RCs w (fun _ => False) e.2.1 e.2.2.1 (ints e.1.2.1)
  le : e.1.2.1.length ≤ e.2.2.2
structure MapSt (w : World) (N0 bm : Nat) (es : List RowE) (cl : Nat) : Prop where
  map : w.heap[bm]? = some (.map (es.map entOf).toArray cl)
  rows : ∀ e ∈ es, RowIn w N0 e
  apart : (es.map (·.2.1)).Nodup
  born : ∀ e ∈ es, e.1.2.2 < cl
  lt : bm < N0
def idxP : List RowP → Int → Nat → Option Nat
  | [], _, _ => none
  | e :: r, x, i => if x = e.1 then some i else idxP r x (i + 1)
theorem idxP_some : ∀ {s : List RowP} {x : Int} {i j : Nat}, idxP s x i = some j → i ≤ j ∧ ∃ e, s[j - i]? = some e ∧ e.1 = x
  | [], x, i, j, h => by simp [idxP] at h
  | e :: r, x, i, j, h => by
    rw [idxP] at h
    split at h
    · rename_i e1; obtain rfl := Option.some.inj h; exact ⟨Nat.le_refl _, e, by simp, e1.symm⟩
    · obtain ⟨h1, e', h2, h3⟩ := idxP_some h
      refine ⟨by omega, e', ?_, h3⟩
      rw [show j - i = (j - (i + 1)) + 1 by omega]; simpa using h2
/-- A number behind the row of a key. -/
def mapIns (s : List RowP × Nat) (x k : Int) : List RowP × Nat :=
  match idxP s.1 x 0 with
  | some j => (s.1.modify j fun y => (y.1, y.2.1 ++ [k], y.2.2), s.2)
  | none => (s.1 ++ [(x, [k], s.2)], s.2 + 1)
def mapAll (s : List RowP × Nat) : List Int → Nat → List RowP × Nat
  | [], _ => s
  | x :: r, k => mapAll (mapIns s x (k : Int)) r (k + 1)
def lookP (s : List RowP) (x : Int) : List Int := (((idxP s x 0).bind (s[·]?)).map (·.2.1)).getD []
theorem find_ents (kk : IntKind) (x : Int) : ∀ (es : List RowE) (i : Nat), Instr.findNow (.int kk) (.int .i64 x) (es.map entOf) i = some ((idxP (es.map Prod.fst) x i).bind fun j => (es[j - i]?).map fun e => (j, (entOf e).val))
  | [], i => rfl
  | e :: es, i => by
    have ih := find_ents kk x es (i + 1)
    have hk : (entOf e).key = .int .i64 e.1.1 := rfl
    simp only [List.map_cons, idxP, Instr.findNow, hk, Instr.sameNow, if_true]
    by_cases h : x = e.1.1
    · rw [if_pos h, show (x == e.1.1) = true from beq_iff_eq.2 h]
      simp
    · rw [if_neg h, show (x == e.1.1) = false from beq_eq_false_iff_ne.2 h]
      simp only
      rw [ih]
      congr 1
      cases hj : idxP (es.map Prod.fst) x (i + 1) with
      | none => rfl
      | some j =>
        have := (idxP_some hj).1
        simp only [Option.bind_some]
        rw [show j - i = (j - (i + 1)) + 1 by omega]
        rfl
/-- What is kept but for the map. -/
structure Keeps (bm : Nat) (w w' : World) : Prop where
  os : w'.os = w.os
  tape : w'.tape = w.tape
  output : w'.output = w.output
  size : w.heap.size ≤ w'.heap.size
  block : ∀ k, k < w.heap.size → k ≠ bm → w'.heap[k]? = w.heap[k]?
theorem Keeps.refl (bm : Nat) (w : World) : Keeps bm w w := ⟨rfl, rfl, rfl, Nat.le_refl _, fun _ _ _ => rfl⟩
def setM (w : World) (b : Nat) (o : Obj) : World := { w with heap := w.heap.setIfInBounds b o }
theorem setM_other (w : World) (b : Nat) (o : Obj) (c : Nat) (h : c ≠ b) : (setM w b o).heap[c]? = w.heap[c]? := by
  simp only [setM, Array.getElem?_setIfInBounds]; rw [if_neg (fun e => h e.symm)]
theorem setM_heap (w : World) (b : Nat) (o : Obj) (h : b < w.heap.size) : (setM w b o).heap[b]? = some o := by simp [setM, h]
theorem setM_size (w : World) (b : Nat) (o : Obj) : (setM w b o).heap.size = w.heap.size := by simp [setM]
theorem RowIn.mono {w w' : World} {N0 : Nat} {e : RowE} (h : RowIn w N0 e) (hb : w'.heap[e.2.1]? = w.heap[e.2.1]?) : RowIn w' N0 e := by
  obtain ⟨h1, ⟨cs, t, h2, h3⟩, h4, h5⟩ := h
  exact ⟨h1, ⟨cs, t, hb.trans h2, h3⟩, RCs_ints_mono hb h4, h5⟩
section
variable {P : Program} {ops : Array Oper} {Q : Exit → Act → World → Prop} {l : List Oper}
theorem map_add {w w3 : World} {N0 bm : Nat} {es : List RowE} {cl : Nat} {x k : Int} {b sh c : Nat} (h : MapSt w N0 bm es cl) (hN : N0 ≤ w.heap.size) (hj : idxP (es.map Prod.fst) x 0 = none) (ha : AppR w w3 N0 (fun _ => False) [k] b sh c) :
    MapSt (setM w3 bm (.map ((es.map entOf).toArray.push { key := .int .i64 x, val := .slice (some ⟨b, sh, none⟩) 1 c, born := cl }) (cl + 1))) N0 bm (es ++ [((x, [k], cl), b, sh, c)]) (cl + 1) := by
  have hbm : bm < w3.heap.size := Nat.lt_of_lt_of_le h.lt (Nat.le_trans hN ha.below.size)
  have hb : w.heap.size ≤ b := by rcases ha.at_ with q | q; exact q.elim; exact q
  refine ⟨?_, fun e he => ?_, ?_, fun e he => ?_, h.lt⟩
  · rw [setM_heap _ _ _ hbm]
    congr 2
    simp [entOf]
  · rcases List.mem_append.1 he with he | he
    · have hr := h.rows e he
      obtain ⟨cs, t, q1, _⟩ := hr.cells
      have hlt := heap_lt q1
      have := hr.ge
      exact hr.mono ((setM_other _ _ _ _ (by have := h.lt; omega)).trans (ha.kept _ hlt (fun q => q)))
    · simp only [List.mem_singleton] at he
      subst he
      obtain ⟨cs, t, q1, q2⟩ := ha.cells
      have hne : b ≠ bm := by have := h.lt; omega
      exact ⟨ha.base, ⟨cs, t, (setM_other _ _ _ _ hne).trans q1, q2⟩, RCs_ints_mono (l := [k]) (setM_other _ _ _ _ hne) ha.row, ha.le⟩
  · rw [List.map_append, List.nodup_append]
    refine ⟨h.apart, by simp, fun a h1 b' h2 => ?_⟩
    obtain ⟨e, he, rfl⟩ := List.mem_map.1 h1
    simp at h2; subst h2
    obtain ⟨cs, t, q1, _⟩ := (h.rows e he).cells
    have := heap_lt q1
    omega
  · rcases List.mem_append.1 he with he | he
    · have := h.born e he; omega
    · simp only [List.mem_singleton] at he
      subst he; simp
theorem map_set {w w3 : World} {N0 bm : Nat} {es : List RowE} {cl : Nat} {x k : Int} {b sh c j : Nat} {e : RowE} (h : MapSt w N0 bm es cl) (hN : N0 ≤ w.heap.size) (hj : es[j]? = some e) (hx : e.1.1 = x) (ha : AppR w w3 N0 (fun q => q = e.2.1) (e.1.2.1 ++ [k]) b sh c) :
    MapSt (setM w3 bm (.map ((es.map entOf).toArray.modify j fun en => { en with key := .int .i64 x, val := .slice (some ⟨b, sh, none⟩) (e.1.2.1.length + 1) c }) cl)) N0 bm (es.set j ((x, e.1.2.1 ++ [k], e.1.2.2), b, sh, c)) cl := by
  have hbm : bm < w3.heap.size := Nat.lt_of_lt_of_le h.lt (Nat.le_trans hN ha.below.size)
  have hjl : j < es.length := by rcases Nat.lt_or_ge j es.length with h' | h'; exact h'; simp [h'] at hj
  have old : ∀ (i : Nat) (z : RowE), i ≠ j → es[i]? = some z → z.2.1 ≠ e.2.1 ∧ z.2.1 < w.heap.size := by
    intro i z hi hz
    have il : i < es.length := by rcases Nat.lt_or_ge i es.length with h' | h'; exact h'; simp [h'] at hz
    obtain ⟨cs, t, q1, _⟩ := (h.rows z (List.mem_of_getElem? hz)).cells
    refine ⟨fun q => hi ?_, heap_lt q1⟩
    have hn := List.pairwise_iff_getElem.1 h.apart
    rw [List.getElem?_eq_getElem il] at hz
    rw [List.getElem?_eq_getElem hjl] at hj
    have z1 := Option.some.inj hz
    have z2 := Option.some.inj hj
    rcases Nat.lt_trichotomy i j with h1 | h1 | h1
    · have := hn i j (by simpa using il) (by simpa using hjl) h1
      simp only [List.getElem_map, z1, z2] at this
      exact absurd q this
    · exact h1
    · have := hn j i (by simpa using hjl) (by simpa using il) h1
      simp only [List.getElem_map, z1, z2] at this
      exact absurd q.symm this
  have hebl : e.2.1 < w.heap.size := by obtain ⟨cs, t, q1, _⟩ := (h.rows e (List.mem_of_getElem? hj)).cells; exact heap_lt q1
  have hege := (h.rows e (List.mem_of_getElem? hj)).ge
  have hbb : b = e.2.1 ∨ w.heap.size ≤ b := ha.at_
  have mem : ∀ z ∈ es.set j ((x, e.1.2.1 ++ [k], e.1.2.2), b, sh, c), z = ((x, e.1.2.1 ++ [k], e.1.2.2), b, sh, c) ∨ ∃ i, i ≠ j ∧ es[i]? = some z := by
    intro z hz
    obtain ⟨i, hi⟩ := List.getElem?_of_mem hz
    rw [List.getElem?_set] at hi
    by_cases hij : j = i
    · subst hij
      rw [if_pos rfl, if_pos hjl] at hi
      exact .inl (Option.some.inj hi).symm
    · rw [if_neg hij] at hi
      exact .inr ⟨i, fun q => hij q.symm, hi⟩
  refine ⟨?_, fun z hz => ?_, ?_, fun z hz => ?_, h.lt⟩
  · rw [setM_heap _ _ _ hbm]
    congr 2
    apply Array.toList_inj.1
    rw [Array.toList_modify]
    apply List.ext_getElem?
    intro i
    simp only [List.getElem?_modify, List.getElem?_map, List.getElem?_set]
    by_cases hij : j = i
    · subst hij
      simp only [hj, Option.map_some, if_true, hjl, entOf, List.length_append, List.length_singleton, Option.map_eq_map]
    · simp only [if_neg hij]
      cases es[i]? <;> rfl
  · rcases mem z hz with rfl | ⟨i, hi, hz'⟩
    · obtain ⟨cs, t, q1, q2⟩ := ha.cells
      have hne : b ≠ bm := by have := h.lt; have := ha.base; omega
      exact ⟨ha.base, ⟨cs, t, (setM_other _ _ _ _ hne).trans q1, q2⟩, RCs_ints_mono (setM_other _ _ _ _ hne) ha.row, ha.le⟩
    · obtain ⟨o1, o2⟩ := old i z hi hz'
      have hr := h.rows z (List.mem_of_getElem? hz')
      exact hr.mono ((setM_other _ _ _ _ (by have := h.lt; have := hr.ge; omega)).trans (ha.kept _ o2 o1))
  · refine List.pairwise_iff_getElem.2 fun i i' hi hi' hii hh => ?_
    simp only [List.getElem_map, List.getElem_set, List.length_map, List.length_set] at hi hi' hh
    have g1 : es[i]? = some es[i] := List.getElem?_eq_getElem hi
    have g2 : es[i']? = some es[i'] := List.getElem?_eq_getElem hi'
    by_cases e1 : j = i
    · by_cases e2 : j = i'
      · omega
      · rw [if_pos e1, if_neg e2] at hh
        obtain ⟨o1, o2⟩ := old i' _ (fun q => e2 q.symm) g2
        simp only at hh
        rcases hbb with q | q
        · exact o1 (by rw [← hh, q])
        · omega
    · by_cases e2 : j = i'
      · rw [if_neg e1, if_pos e2] at hh
        obtain ⟨o1, o2⟩ := old i _ (fun q => e1 q.symm) g1
        simp only at hh
        rcases hbb with q | q
        · exact o1 (by rw [hh, q])
        · omega
      · rw [if_neg e1, if_neg e2] at hh
        have := List.pairwise_iff_getElem.1 h.apart i i' (by simpa using hi) (by simpa using hi') hii
        simp only [List.getElem_map] at this
        exact this hh
  · rcases mem z hz with rfl | ⟨i, hi, hz'⟩
    · exact h.born e (List.mem_of_getElem? hj)
    · exact h.born z (List.mem_of_getElem? hz')
end
theorem mapIns_none {es : List RowE} {cl : Nat} {x k : Int} {p : Nat × Nat × Nat} (hj : idxP (es.map Prod.fst) x 0 = none) : mapIns (es.map Prod.fst, cl) x k = ((es ++ [((x, [k], cl), p)]).map Prod.fst, cl + 1) := by
  unfold mapIns; rw [hj]; simp
theorem mapIns_some {es : List RowE} {cl : Nat} {x k : Int} {p : Nat × Nat × Nat} {j : Nat} {e : RowE} (hj : idxP (es.map Prod.fst) x 0 = some j) (he : es[j]? = some e) (hx : e.1.1 = x) : mapIns (es.map Prod.fst, cl) x k = ((es.set j ((x, e.1.2.1 ++ [k], e.1.2.2), p)).map Prod.fst, cl) := by
  unfold mapIns
  rw [hj]
  simp only [Prod.mk.injEq, and_true]
  apply List.ext_getElem?
  intro i
  have hjl : j < es.length := by rcases Nat.lt_or_ge j es.length with h' | h'; exact h'; simp [h'] at he
  simp only [List.getElem?_modify, List.getElem?_map, List.getElem?_set]
  by_cases hij : j = i
  · subst hij
    simp only [he, Option.map_some, if_true, hjl, Option.map_eq_map, hx]
  · simp only [if_neg hij]
    cases es[i]? <;> rfl
/-! What is looked up behind all. -/
theorem idxP_shift : ∀ (s : List RowP) (x : Int) (i : Nat), idxP s x (i + 1) = (idxP s x i).map (· + 1)
  | [], x, i => rfl
  | e :: r, x, i => by
    simp only [idxP]
    split
    · rfl
    · exact idxP_shift r x (i + 1)
theorem lookP_cons (e : RowP) (r : List RowP) (x : Int) : lookP (e :: r) x = if x = e.1 then e.2.1 else lookP r x := by
  unfold lookP
  rw [idxP]
  split
  · rfl
  · rw [idxP_shift]
    cases idxP r x 0 with
    | none => rfl
    | some j => simp
theorem lookP_snoc (x : Int) (p : RowP) : ∀ (s : List RowP), lookP (s ++ [p]) x = if idxP s x 0 = none then (if x = p.1 then p.2.1 else []) else lookP s x
  | [] => by
    rw [List.nil_append, lookP_cons]
    simp [idxP, lookP]
  | e :: r => by
    rw [List.cons_append, lookP_cons, lookP_cons, lookP_snoc x p r]
    have e0 : idxP (e :: r) x 0 = if x = e.1 then some 0 else (idxP r x 0).map (· + 1) := by rw [idxP, idxP_shift]
    by_cases h : x = e.1
    · rw [if_pos h] at e0
      rw [if_pos h, if_neg (by rw [e0]; simp), if_pos h]
    · rw [if_neg h] at e0
      rw [if_neg h, if_neg h]
      cases hj : idxP r x 0 with
      | none => rw [hj] at e0; rw [if_pos rfl, if_pos (show idxP (e :: r) x 0 = none from e0)]
      | some j => rw [hj] at e0; rw [if_neg (by simp), if_neg (by rw [e0]; simp)]
theorem lookP_none {s : List RowP} {x : Int} (h : idxP s x 0 = none) : lookP s x = [] := by unfold lookP; rw [h]; rfl
theorem lookP_modify (k : Int) (x y : Int) : ∀ (s : List RowP) (j : Nat), idxP s x 0 = some j → lookP (s.modify j fun z => (z.1, z.2.1 ++ [k], z.2.2)) y = if y = x then lookP s y ++ [k] else lookP s y
  | [], j, h => by simp [idxP] at h
  | e :: r, j, h => by
    rw [idxP] at h
    split at h
    · rename_i e1
      obtain rfl := Option.some.inj h
      simp only [List.modify_zero_cons, lookP_cons, e1]
      by_cases hy : y = e.1 <;> simp [hy]
    · rename_i e1
      rw [idxP_shift] at h
      obtain ⟨j', h1, rfl⟩ := Option.map_eq_some_iff.1 h
      simp only [List.modify_succ_cons, lookP_cons, lookP_modify k x y r j' h1]
      by_cases hy : y = e.1
      · rw [if_pos hy, if_pos hy, if_neg (fun q => e1 (q.symm.trans hy))]
      · rw [if_neg hy, if_neg hy]
theorem lookP_ins (s : List RowP) (cl : Nat) (x k y : Int) : lookP (mapIns (s, cl) x k).1 y = if y = x then lookP s y ++ [k] else lookP s y := by
  unfold mapIns
  cases hj : idxP s x 0 with
  | some j => exact lookP_modify k x y s j hj
  | none =>
    simp only
    rw [lookP_snoc]
    by_cases hy : y = x
    · subst hy
      rw [if_pos hj, if_pos rfl, if_pos rfl, lookP_none hj]; rfl
    · rw [if_neg hy, if_neg hy]
      split
      · rename_i h; rw [lookP_none h]
      · rfl
/-- Where y is, as numbers. -/
def hitsI : List Int → Int → Nat → List Int
  | [], _, _ => []
  | x :: q, y, k => if y = x then (k : Int) :: hitsI q y (k + 1) else hitsI q y (k + 1)
theorem lookP_all : ∀ (q : List Int) (s : List RowP × Nat) (k : Nat) (y : Int), lookP (mapAll s q k).1 y = lookP s.1 y ++ (hitsI q y k)
  | [], s, k, y => by simp [mapAll, hitsI]
  | x :: q, (s, cl), k, y => by
    rw [mapAll, lookP_all q _ (k + 1) y, lookP_ins, hitsI]
    by_cases h : y = x
    · rw [if_pos h, if_pos h]; simp
    · rw [if_neg h, if_neg h]

/-- What is known of the program's types. -/
structure RowTy (P : Program) (tm kt ti te : TypeId) : Prop where
  m : P.underlying tm = some (.map kt ti)
  k : P.underlying kt = some (.int .i64)
  z : ∀ w, (zeroValue ti).run P w = .ok (.slice none 0 0) w
  e : elemOf P ti = some te
  s : szOf P te = some 1
  b : bytesOf P te = some 8
  z1 : zeroOf P te = some [I 0]
  a : aggOf P te = some false
  u : P.underlying te = some (.int .i64)
/-- An act with the same but for the temporaries from p on, up to q, and r. -/
structure ActEq (r : Nat → Prop) (a a' : Act) : Prop where
  size : a'.tmps.size = a.tmps.size
  defers : a'.defers = a.defers
  tm : ∀ t, ¬ r t → a'.tmps.getD t undef = a.tmps.getD t undef
theorem ActEq.put {r : Nat → Prop} {a a' : Act} (h : ActEq r a a') {d : Nat} {v : Value} (hd : r d) (hl : d < a.tmps.size) : ActEq r a (a'.put (some d) v) where
  size := (put_size _ _ _).trans h.size
  defers := by simp [Act.put, h.defers]
  tm := fun t ht => (getD_put2 (by rw [h.size]; exact hl) (fun q => ht (by rw [q]; exact hd))).trans (h.tm t ht)
theorem ActEq.refl (r : Nat → Prop) (a : Act) : ActEq r a a := ⟨rfl, rfl, fun _ _ => rfl⟩
def updObj (ents : Array MapEntry) (cl : Nat) (x : Int) (v : Value) : Option (Nat × Value) → Obj
  | some (j, _) => .map (ents.modify j fun en => { en with key := .int .i64 x, val := v }) cl
  | none => .map (ents.push { key := .int .i64 x, val := v, born := cl }) (cl + 1)
theorem upd_run {P : Program} {t k e : TypeId} {kk : IntKind} (hu1 : P.underlying t = some (.map k e)) (hu2 : P.underlying k = some (.int kk)) {w : World} {b : Nat} {ents : Array MapEntry} {cl : Nat} (hb : w.heap[b]? = some (.map ents cl)) {x : Int} {v : Value} : ∀ {q : Option (Nat × Value)},
    Instr.findNow (.int kk) (.int .i64 x) ents.toList 0 = some q → (∀ j v, q = some (j, v) → ∃ en, ents[j]? = some en ∧ en.key = .int .i64 x) → (Instr.mapUpdate t (.map (some b)) (.int .i64 x) v).run P w = .ok () (setM w b (updObj ents cl x v q))
  | none, hq, hk => mapUpdate_run (P := P) (K := ⟨w, fun _ => False, 0, fun _ => none⟩) (x := v) hu1 hu2 hb hq hk
  | some (j, u), hq, hk => mapUpdate_run (P := P) (K := ⟨w, fun _ => False, 0, fun _ => none⟩) (x := v) hu1 hu2 hb hq hk
section
variable {P : Program} {ops : Array Oper} {Q : Exit → Act → World → Prop} {l : List Oper}
theorem map_bd {w : World} {N0 bm : Nat} {es : List RowE} {cl : Nat} (h : MapSt w N0 bm es cl) (hN : N0 ≤ w.heap.size) : bm < w.heap.size := Nat.lt_of_lt_of_le h.lt hN
theorem rows_r9 {tm kt ti te : TypeId} (ht : RowTy P tm kt ti te) {o1 o2 o3 o4 o5 o6 o7 o8 o9 : Oper} (g : o1.guard = none ∧ o2.guard = none ∧ o3.guard = none ∧ o4.guard = none ∧ o5.guard = none ∧ o6.guard = none ∧ o7.guard = none ∧ o8.guard = none ∧ o9.guard = none)
    (h1 : o1.op = .move (.tmp 8)) (d1 : o1.dst = some 41) (h2 : o2.op = .move (.tmp 10)) (d2 : o2.dst = some 42) (h3 : o3.op = .move (.tmp 8)) (d3 : o3.dst = some 43) (h4 : o4.op = .move (.tmp 10)) (d4 : o4.dst = some 44)
    (h5 : o5.op = .lookup tm (.tmp 43) (.tmp 44) false) (d5 : o5.dst = some 45) (h6 : o6.op = .move (.tmp 9)) (d6 : o6.dst = some 46) (h7 : o7.op = .buildSlice ti 1 #[(0, .tmp 46)]) (d7 : o7.dst = some 47)
    (h8 : o8.op = .call ⟨.builtin .append, #[.tmp 45, .tmp 47], #[ti, ti]⟩) (d8 : o8.dst = some 48) (h9 : o9.op = .mapUpdate tm (.tmp 41) (.tmp 42) (.tmp 48)) (d9 : o9.dst = none)
    {a : Act} {w : World} {N0 bm : Nat} {es : List RowE} {cl : Nat} {x k : Int} (hs : 49 < a.tmps.size) (e8 : a.tmps.getD 8 undef = .map (some bm)) (e9 : a.tmps.getD 9 undef = .int .i64 k) (e10 : a.tmps.getD 10 undef = .int .i64 x)
    (hm : MapSt w N0 bm es cl) (hN : N0 ≤ w.heap.size) (hlen : ∀ e ∈ es, e.1.2.1.length ≤ 4000)
    (hn : ∀ a' w' es' cl', (es'.map Prod.fst, cl') = mapIns (es.map Prod.fst, cl) x k → MapSt w' N0 bm es' cl' → (w'.os = w.os ∧ w'.tape = w.tape ∧ w'.output = w.output ∧ w.heap.size ≤ w'.heap.size ∧ ∀ q, q < N0 → q ≠ bm → w'.heap[q]? = w.heap[q]?) → ActEq (fun t => 41 ≤ t ∧ t ≤ 48) a a' → wpList P ops Q l a' w') :
    wpList P ops Q (o1 :: o2 :: o3 :: o4 :: o5 :: o6 :: o7 :: o8 :: o9 :: l) a w := by
  obtain ⟨g1, g2, g3, g4, g5, g6, g7, g8, g9⟩ := g
  have R : ∀ d, (41 ≤ d ∧ d ≤ 48) → d < a.tmps.size := fun d hd => by omega
  have A0 := ActEq.refl (fun t => 41 ≤ t ∧ t ≤ 48) a
  refine wl_move g1 (.inl h1) d1 (show a.eval (.tmp 8) = _ from e8) ?_
  have A1 := A0.put (d := 41) (v := .map (some bm)) ⟨by omega, by omega⟩ (R _ ⟨by omega, by omega⟩)
  refine wl_move g2 (.inl h2) d2 (show Act.eval _ (.tmp 10) = .int .i64 x from (A1.tm 10 (by omega)).trans e10) ?_
  have A2 := A1.put (d := 42) (v := .int .i64 x) ⟨by omega, by omega⟩ (R _ ⟨by omega, by omega⟩)
  refine wl_move g3 (.inl h3) d3 (show Act.eval _ (.tmp 8) = .map (some bm) from (A2.tm 8 (by omega)).trans e8) ?_
  have A3 := A2.put (d := 43) (v := .map (some bm)) ⟨by omega, by omega⟩ (R _ ⟨by omega, by omega⟩)
  refine wl_move g4 (.inl h4) d4 (show Act.eval _ (.tmp 10) = .int .i64 x from (A3.tm 10 (by omega)).trans e10) ?_
  have A4 := A3.put (d := 44) (v := .int .i64 x) ⟨by omega, by omega⟩ (R _ ⟨by omega, by omega⟩)
  generalize ha4 : (((a.put (some 41) (.map (some bm))).put (some 42) (.int .i64 x)).put (some 43) (.map (some bm))).put (some 44) (.int .i64 x) = a4 at A4 ⊢
  have s4 : a4.tmps.size = a.tmps.size := A4.size
  have t41 : a4.tmps.getD 41 undef = .map (some bm) := by
    rw [← ha4, getD_put2 (by simp only [put_size]; omega) (by omega), getD_put2 (by simp only [put_size]; omega) (by omega), getD_put2 (by simp only [put_size]; omega) (by omega), getD_put1 (by omega)]
  have t42 : a4.tmps.getD 42 undef = .int .i64 x := by
    rw [← ha4, getD_put2 (by simp only [put_size]; omega) (by omega), getD_put2 (by simp only [put_size]; omega) (by omega), getD_put1 (by simp only [put_size]; omega)]
  have t43 : a4.tmps.getD 43 undef = .map (some bm) := by
    rw [← ha4, getD_put2 (by simp only [put_size]; omega) (by omega), getD_put1 (by simp only [put_size]; omega)]
  have t44 : a4.tmps.getD 44 undef = .int .i64 x := by
    rw [← ha4, getD_put1 (by simp only [put_size]; omega)]
  have hf := find_ents .i64 x es 0
  have hl := lookup_run (P := P) ht.m ht.k hm.map (kv := .int .i64 x) (q := (idxP (es.map Prod.fst) x 0).bind fun j => (es[j - 0]?).map fun e => (j, (entOf e).val)) (by simpa using hf) (ht.z w) false
  simp only [Bool.false_eq_true, if_false] at hl
  -- the update
  have upd : ∀ (a5 : Act) (w3 : World) (v : Value) (es' : List RowE) (cl' : Nat), ActEq (fun t => 41 ≤ t ∧ t ≤ 48) a a5 → a5.tmps.getD 41 undef = .map (some bm) → a5.tmps.getD 42 undef = .int .i64 x → a5.tmps.getD 48 undef = v →
      w3.heap[bm]? = some (.map (es.map entOf).toArray cl) → Below N0 w w3 ∧ (∀ q, q < N0 → w3.heap[q]? = w.heap[q]?) → (es'.map Prod.fst, cl') = mapIns (es.map Prod.fst, cl) x k →
      MapSt (setM w3 bm (updObj (es.map entOf).toArray cl x v ((idxP (es.map Prod.fst) x 0).bind fun j => (es[j - 0]?).map fun e => (j, (entOf e).val)))) N0 bm es' cl' → wpList P ops Q (o9 :: l) a5 w3 := by
    intro a5 w3 v es' cl' hA q41 q42 q48 hh ⟨hB, hBk⟩ hi hM
    obtain ⟨dd9, op9, ty9, pos9, af9, gg9⟩ := o9
    simp only at g9 h9 d9
    subst g9; subst h9; subst d9
    have hrun := upd_run (P := P) (v := v) ht.m ht.k hh (x := x) (q := (idxP (es.map Prod.fst) x 0).bind fun j => (es[j - 0]?).map fun e => (j, (entOf e).val)) (by simpa using hf) (fun j v' hj => by
      obtain ⟨j', e1, e2⟩ := Option.bind_eq_some_iff.1 hj
      obtain ⟨e, e3, e4⟩ := Option.map_eq_some_iff.1 e2
      simp only [Prod.mk.injEq] at e4
      obtain ⟨rfl, _⟩ := e4
      obtain ⟨_, p, p1, p2⟩ := idxP_some e1
      simp only [Nat.sub_zero, List.getElem?_map] at e3 p1
      refine ⟨entOf e, by simp [e3], ?_⟩
      rw [e3] at p1
      simp at p1
      show Value.int .i64 e.1.1 = _
      rw [p1, p2])
    refine wl_skip (w' := _) rfl (by
      simp only [execOp]
      rw [show a5.eval (.tmp 41) = .map (some bm) from q41, show a5.eval (.tmp 42) = .int .i64 x from q42, show a5.eval (.tmp 48) = v from q48]
      show (Sem.bind _ _).run P w3 = _
      rw [Sem.run_bind', hrun]; rfl) (hn _ _ es' cl' hi hM ⟨?_, ?_, ?_, ?_, fun q hq hne => ?_⟩ hA)
    · exact hB.os
    · exact hB.tape
    · exact hB.output
    · show w.heap.size ≤ (setM w3 bm _).heap.size
      rw [setM_size]; exact hB.size
    · exact (setM_other _ _ _ _ hne).trans (hBk q hq)
  have hbl := map_bd hm hN
  cases hj : idxP (es.map Prod.fst) x 0 with
  | none =>
    rw [hj] at hl upd
    simp only [Option.bind_none, Option.map_none, Option.getD_none] at hl upd
    refine wl_val (v := .slice none 0 0) g5 (by
      obtain ⟨dd, op, ty, pos, af, gg⟩ := o5
      simp only at h5
      subst h5
      simp only [execOp]
      rw [show a4.eval (.tmp 43) = .map (some bm) from t43, show a4.eval (.tmp 44) = .int .i64 x from t44, run_value, hl]; rfl) ?_
    rw [d5]
    have A5 := A4.put (d := 45) (v := .slice none 0 0) ⟨by omega, by omega⟩ (R _ ⟨by omega, by omega⟩)
    refine wl_move g6 (.inl h6) d6 (show Act.eval _ (.tmp 9) = .int .i64 k from (A5.tm 9 (by omega)).trans e9) ?_
    have A6 := A5.put (d := 46) (v := .int .i64 k) ⟨by omega, by omega⟩ (R _ ⟨by omega, by omega⟩)
    refine wl_app_nil (N0 := N0) (k := k) g7 g8 h7 d7 h8 d8 ht.e ht.s ht.b ht.z1 (getD_put1 (by simp only [put_size]; omega)) (by decide) (by decide) (by simp only [put_size]; omega) hN (by
      rw [getD_put2 (by simp only [put_size]; omega) (by omega), getD_put1 (by omega)]) fun b' sh' c' w3 v1 hA => ?_
    have A8 := (A6.put (d := 47) (v := v1) ⟨by omega, by omega⟩ (R _ ⟨by omega, by omega⟩)).put (d := 48) (v := .slice (some ⟨b', sh', none⟩) 1 c') ⟨by omega, by omega⟩ (R _ ⟨by omega, by omega⟩)
    refine upd _ w3 (.slice (some ⟨b', sh', none⟩) 1 c') (es ++ [((x, [k], cl), b', sh', c')]) (cl + 1) A8 ?_ ?_ (getD_put1 (by simp only [put_size]; omega)) ((hA.kept bm hbl (fun q => q)).trans hm.map) ⟨hA.below, hA.below.block⟩ (mapIns_none hj).symm (map_add hm hN hj hA)
    · rw [getD_put2 (by simp only [put_size]; omega) (by omega), getD_put2 (by simp only [put_size]; omega) (by omega), getD_put2 (by simp only [put_size]; omega) (by omega), getD_put2 (by omega) (by omega), t41]
    · rw [getD_put2 (by simp only [put_size]; omega) (by omega), getD_put2 (by simp only [put_size]; omega) (by omega), getD_put2 (by simp only [put_size]; omega) (by omega), getD_put2 (by omega) (by omega), t42]
  | some j =>
    obtain ⟨_, p, p1, p2⟩ := idxP_some hj
    simp only [Nat.sub_zero, List.getElem?_map] at p1
    obtain ⟨e, he, rfl⟩ := Option.map_eq_some_iff.1 p1
    have hro := hm.rows e (List.mem_of_getElem? he)
    have hle := hlen e (List.mem_of_getElem? he)
    obtain ⟨cs, te', q1, q2⟩ := hro.cells
    rw [hj] at hl upd
    simp only [Option.bind_some, Nat.sub_zero, he, Option.map_some, Option.getD_some] at hl upd
    refine wl_val (v := (entOf e).val) g5 (by
      obtain ⟨dd, op, ty, pos, af, gg⟩ := o5
      simp only at h5
      subst h5
      simp only [execOp]
      rw [show a4.eval (.tmp 43) = .map (some bm) from t43, show a4.eval (.tmp 44) = .int .i64 x from t44, run_value, hl]; rfl) ?_
    rw [d5]
    have A5 := A4.put (d := 45) (v := (entOf e).val) ⟨by omega, by omega⟩ (R _ ⟨by omega, by omega⟩)
    refine wl_move g6 (.inl h6) d6 (show Act.eval _ (.tmp 9) = .int .i64 k from (A5.tm 9 (by omega)).trans e9) ?_
    have A6 := A5.put (d := 46) (v := .int .i64 k) ⟨by omega, by omega⟩ (R _ ⟨by omega, by omega⟩)
    refine wl_app_row (N0 := N0) (k := k) (xs := e.1.2.1) (b := e.2.1) (sh := e.2.2.1) (c := e.2.2.2) g7 g8 h7 d7 h8 d8 ht.e ht.s ht.b ht.z1 (getD_put1 (by simp only [put_size]; omega)) (by decide) (by decide) (by simp only [put_size]; omega) hN (by omega) (by
      rw [getD_put2 (by simp only [put_size]; omega) (by omega), getD_put1 (by omega)]; rfl) hro.le q1 q2 hro.row hro.ge fun b' sh' c' w3 v1 hA => ?_
    have A8 := (A6.put (d := 47) (v := v1) ⟨by omega, by omega⟩ (R _ ⟨by omega, by omega⟩)).put (d := 48) (v := .slice (some ⟨b', sh', none⟩) (e.1.2.1.length + 1) c') ⟨by omega, by omega⟩ (R _ ⟨by omega, by omega⟩)
    refine upd _ w3 (.slice (some ⟨b', sh', none⟩) (e.1.2.1.length + 1) c') (es.set j ((x, e.1.2.1 ++ [k], e.1.2.2), b', sh', c')) cl A8 ?_ ?_ (getD_put1 (by simp only [put_size]; omega)) ((hA.kept bm hbl (by have := hro.ge; have := hm.lt; omega)).trans hm.map) ⟨hA.below, hA.below.block⟩ (mapIns_some hj he p2).symm (map_set hm hN he p2 hA)
    · rw [getD_put2 (by simp only [put_size]; omega) (by omega), getD_put2 (by simp only [put_size]; omega) (by omega), getD_put2 (by simp only [put_size]; omega) (by omega), getD_put2 (by omega) (by omega), t41]
    · rw [getD_put2 (by simp only [put_size]; omega) (by omega), getD_put2 (by simp only [put_size]; omega) (by omega), getD_put2 (by simp only [put_size]; omega) (by omega), getD_put2 (by omega) (by omega), t42]
end

theorem mapAll_snoc : ∀ (l : List Int) (s : List RowP × Nat) (x : Int) (k : Nat), mapAll s (l ++ [x]) k = mapIns (mapAll s l k) x ((k + l.length : Nat) : Int)
  | [], s, x, k => by simp [mapAll]
  | y :: l, s, x, k => by
    rw [List.cons_append, mapAll, mapAll, mapAll_snoc l _ x (k + 1), List.length_cons]
    congr 2
    omega
theorem mapIns_len {s : List RowP × Nat} {x k : Int} {i : Nat} (h : ∀ e ∈ s.1, e.2.1.length ≤ i) : ∀ e ∈ (mapIns s x k).1, e.2.1.length ≤ i + 1 := by
  intro e he
  unfold mapIns at he
  split at he
  · rename_i j hj
    obtain ⟨n, hn⟩ := List.getElem?_of_mem he
    rw [List.getElem?_modify] at hn
    obtain ⟨z, hz1, hz2⟩ := Option.map_eq_some_iff.1 hn
    have := h z (List.mem_of_getElem? hz1)
    rw [← hz2]
    split
    · simp; omega
    · omega
  · rcases List.mem_append.1 he with he | he
    · have := h e he; omega
    · simp at he; subst he; simp
section
variable {m : Nat} {w0 : World} {F0 : Nat → Prop} {K : Ctx} {S : St} {a : Act}
/-- More blocks that nobody writes any more. -/
theorem Inv.addF (h : Inv m w0 F0 K S a) (F' : Nat → Prop) (hF : ∀ b, F' b → b < K.w.heap.size ∧ w0.heap.size ≤ b ∧ ∀ o x sh, obj S.o o = some x → x ≠ .dead → K.σ o ≠ some (some (b, sh))) : Inv m w0 F0 { K with F := fun b => K.F b ∨ F' b } S a := by
  have hext : KExt K { K with F := fun b => K.F b ∨ F' b } := ⟨rfl, fun b hb => .inl hb, fun _ _ h => h, fun _ _ => rfl, fun b cs e fr h => ⟨cs, e, fr, h, rfl⟩⟩
  exact { h with
    good := ⟨fun b hb => hb.elim (h.good.F b) fun q => (hF b q).1, h.good.base⟩
    Fin := fun b hb => .inl (h.Fin b hb)
    Fout := fun b hb => hb.elim (h.Fout b) fun q => .inr (hF b q).2.1
    tm := fun t => RT.mono hext _ _ (h.tm t)
    oi := {
      objs := fun o x s ho hs => by
        by_cases hd : x = .dead
        · subst hd; simp only [RO]
        · exact RO.mono hext (fun b sh e hn hb => hb.elim hn fun q => (hF b q).2.2 o x sh ho hd (by rw [← e]; exact hs)) (fun _ _ _ => rfl) (h.oi.objs o x s ho hs)
      dom := h.oi.dom
      alias := h.oi.alias } }
/-- Other temporaries are known, in an act that has these as before. -/
theorem Inv.act (h : Inv m w0 F0 K S a) {a' : Act} {r : Nat → Prop} (ha : ActEq r a a') {T' : List (Nat × T)} (hT : ∀ t, get T' t = .junk ∨ (get T' t = get S.t t ∧ ¬ r t)) : Inv m w0 F0 K { S with t := T' } a' := { h with
  size := ha.size.trans h.size
  defers := ha.defers.trans h.defers
  tm := fun t => by
    show RT K (get T' t) _
    rcases hT t with h1 | ⟨h1, h2⟩
    · rw [h1]; simp only [RT]
    · rw [h1, ha.tm t h2]; exact h.tm t }
theorem setM_setM (w : World) (b : Nat) (o o' : Obj) (h : w.heap[b]? = some o) : setM (setM w b o') b o = w := by
  have hb := heap_lt h
  have e : ((w.heap.setIfInBounds b o').setIfInBounds b o) = w.heap := by
    apply Array.ext_getElem?
    intro i
    simp only [Array.getElem?_setIfInBounds, Array.size_setIfInBounds]
    by_cases hi : b = i
    · subst hi; rw [if_pos rfl, if_pos hb]; exact h.symm
    · rw [if_neg hi, if_neg hi]
  unfold setM
  simp only [e]
def mapC (s : List RowP) : List (Value × C × Nat) := s.map fun e => (.int .i64 e.1, .s none e.2.1.length (ints e.2.1), e.2.2)
theorem REs_rows {w : World} {F : Nat → Prop} {N0 : Nat} : ∀ (es : List RowE), (∀ e ∈ es, RowIn w N0 e) → (∀ e ∈ es, F e.2.1) → REs w F (mapC (es.map Prod.fst)) (es.map entOf)
  | [], _, _ => by simp only [mapC, List.map_nil, REs]
  | e :: es, h, hF => by
    have ih := REs_rows es (fun x hx => h x (by simp [hx])) (fun x hx => hF x (by simp [hx]))
    have he := h e (by simp)
    simp only [mapC, List.map_cons, REs] at ih ⊢
    refine ⟨entOf e, es.map entOf, rfl, rfl, ?_, rfl, ih⟩
    simp only [RC, entOf]
    exact ⟨_, _, rfl, he.le, fun k hk => by simp at hk, .inr ⟨_, _, rfl, hF e (by simp), RCs_ints he.row⟩⟩
/-- The map is full: the state behind the loop. -/
theorem Inv.rows (h : Inv m w0 F0 K S a) {om bm sh : Nat} {ents0 : Array MapEntry} (hom : obj S.o om = some (.mp [] 0)) (hσ : K.σ om = some (some (bm, sh))) (hb0 : K.w.heap[bm]? = some (.map ents0 0)) {w' : World} (hk : Keeps bm K.w w') {es : List RowE} {cl : Nat} (hm : MapSt w' K.w.heap.size bm es cl)
    {a' : Act} {r : Nat → Prop} (ha : ActEq r a a') {T' : List (Nat × T)} (hT : ∀ t, get T' t = .junk ∨ (get T' t = get S.t t ∧ ¬ r t)) :
    ∃ K', K'.w = w' ∧ Inv m w0 F0 K' ⟨T', setO om (.mp (mapC (es.map Prod.fst)) cl) S.o, S.n⟩ a' := by
  have hro := h.oi.objs om _ _ hom hσ
  simp only [RO] at hro
  obtain ⟨b', ents, e1, hF, hbase, hh, hre, _⟩ := hro
  obtain ⟨rfl, rfl⟩ := Prod.mk.inj (Option.some.inj e1)
  have hbm := heap_lt hb0
  have hbm' : bm < w'.heap.size := Nat.lt_of_lt_of_le hbm hk.size
  have hbel : Below K.w.heap.size K.w (setM w' bm (.map ents0 0)) := ⟨hk.os, hk.tape, hk.output, by rw [setM_size]; exact hk.size, fun k hlt => by
    by_cases hkb : k = bm
    · subst hkb; rw [setM_heap _ _ _ hbm', hb0]
    · rw [setM_other _ _ _ _ hkb]; exact hk.block k hlt hkb⟩
  have h1 := h.grown hbel
  have hblk : ∀ e ∈ es, e.2.1 < w'.heap.size ∧ K.w.heap.size ≤ e.2.1 := fun e he => by
    obtain ⟨cs, t, q, _⟩ := (hm.rows e he).cells
    exact ⟨heap_lt q, (hm.rows e he).ge⟩
  have h2 := h1.addF (fun b => ∃ e ∈ es, b = e.2.1) (by
    rintro b ⟨e, he, rfl⟩
    obtain ⟨q1, q2⟩ := hblk e he
    refine ⟨by show _ < (setM w' bm _).heap.size; rw [setM_size]; exact q1, Nat.le_trans h.below.size q2, fun o x sh ho hd hs => ?_⟩
    have := RO.lt h.good (h.oi.objs o x _ ho hs) hd
    omega)
  have hh1 : (setM w' bm (.map ents0 0)).heap[bm]? = some (.map ents0 0) := setM_heap _ _ _ hbm'
  have hcl : ents = ents0 := by rw [hh] at hb0; simp at hb0; exact hb0
  have hfin := h2.writeMap (o' := .map (es.map entOf).toArray cl) (es' := mapC (es.map Prod.fst)) (cl' := cl) hom hσ (fun q => q.elim hF fun ⟨e, he, q⟩ => by have := (hblk e he).2; omega) hbase hh1 (os := setO om (.mp (mapC (es.map Prod.fst)) cl) S.o) (fun o => by
    rw [obj_setO]; split
    · rename_i e; subst e; rw [hom]; rfl
    · rfl) ?_
  · refine ⟨_, ?_, (hfin.act ha hT)⟩
    exact setM_setM w' bm _ _ hm.map
  · simp only [RO]
    refine ⟨bm, (es.map entOf).toArray, rfl, ?_, hbase, ?_, ?_, fun x hx => ?_⟩
    · exact fun q => q.elim hF fun ⟨e, he, q⟩ => by have := (hblk e he).2; omega
    · exact setMap_heap _ _ _ (by show bm < (setM w' bm _).heap.size; rw [setM_size]; exact hbm')
    · have hw : (setM (setM w' bm (.map ents0 0)) bm (.map (es.map entOf).toArray cl)) = w' := setM_setM w' bm _ _ hm.map
      show REs (setM (setM w' bm (.map ents0 0)) bm (.map (es.map entOf).toArray cl)) (fun b => K.F b ∨ ∃ e ∈ es, b = e.2.1) _ (es.map entOf)
      rw [hw]
      exact REs_rows (N0 := K.w.heap.size) es hm.rows fun e he => .inr ⟨e, he, rfl⟩
    · unfold mapC at hx
      simp only [List.map_map, List.mem_map] at hx
      obtain ⟨e, he, rfl⟩ := hx
      exact hm.born e he
end
section
variable {P : Program} {m : Nat} {w0 : World} {F0 : Nat → Prop} {S : St}
abbrev rowMod (t : Nat) : Prop := t = 9 ∨ t = 10 ∨ (36 ≤ t ∧ t ≤ 49)
theorem rows_loop {tm kt ti te t2 t3 : TypeId} (ht : RowTy P tm kt ti te) {c7 p1 p2 p3 p4 p5 o1 o2 o3 o4 o5 o6 o7 o8 o9 r1 r2 : Oper} {i7 i8 i9 i10 : Nat}
    (gc : c7.guard = none) (hc : c7.op = .binOp .lss te (.tmp 36) (.tmp 35) t2) (dc : c7.dst = some 37)
    (gp : p1.guard = none ∧ p2.guard = none ∧ p3.guard = none ∧ p4.guard = none ∧ p5.guard = none)
    (hp1 : p1.op = .move (.tmp 36)) (dp1 : p1.dst = some 38) (hp2 : p2.op = .indexAddr ti (.tmp 34) (.tmp 36)) (dp2 : p2.dst = some 39) (hp3 : p3.op = .load te (.tmp 39)) (dp3 : p3.dst = some 40) (hp4 : p4.op = .assign (.tmp 38)) (dp4 : p4.dst = some 9) (hp5 : p5.op = .assign (.tmp 40)) (dp5 : p5.dst = some 10)
    (g : o1.guard = none ∧ o2.guard = none ∧ o3.guard = none ∧ o4.guard = none ∧ o5.guard = none ∧ o6.guard = none ∧ o7.guard = none ∧ o8.guard = none ∧ o9.guard = none)
    (h1 : o1.op = .move (.tmp 8)) (d1 : o1.dst = some 41) (h2 : o2.op = .move (.tmp 10)) (d2 : o2.dst = some 42) (h3 : o3.op = .move (.tmp 8)) (d3 : o3.dst = some 43) (h4 : o4.op = .move (.tmp 10)) (d4 : o4.dst = some 44)
    (h5 : o5.op = .lookup tm (.tmp 43) (.tmp 44) false) (d5 : o5.dst = some 45) (h6 : o6.op = .move (.tmp 9)) (d6 : o6.dst = some 46) (h7 : o7.op = .buildSlice ti 1 #[(0, .tmp 46)]) (d7 : o7.dst = some 47)
    (h8 : o8.op = .call ⟨.builtin .append, #[.tmp 45, .tmp 47], #[ti, ti]⟩) (d8 : o8.dst = some 48) (h9 : o9.op = .mapUpdate tm (.tmp 41) (.tmp 42) (.tmp 48)) (d9 : o9.dst = none)
    (gr1 : r1.guard = none) (gr2 : r2.guard = none) (hr1 : r1.op = .binOp .add te (.tmp 36) (.const (.int .i64 1)) t3) (dr1 : r1.dst = some 49) (hr2 : r2.op = .move (.tmp 49)) (dr2 : r2.dst = some 36)
    (hm : 49 < m) {om pr gg gen : Nat} {xs : List Int} {cap : Option Nat} (s8 : get S.t 8 = .mp om) (som : obj S.o om = some (.mp [] 0)) (s34 : get S.t 34 = .sl pr 0 xs.length 1 cap) (spr : obj S.o pr = some (.arr (ints xs) gg gen)) (s35 : get S.t 35 = I xs.length) (s36 : get S.t 36 = I 0) (hx : xs.length ≤ 4000)
    {T' : List (Nat × T)} (hT : ∀ t, get T' t = .junk ∨ (get T' t = get S.t t ∧ ¬ rowMod t)) {l : List Code} {Q : Ex → St → Prop}
    (h : WalkL P m w0 F0 l ⟨T', setO om (.mp (mapC (mapAll ([], 0) xs 0).1) (mapAll ([], 0) xs 0).2) S.o, S.n⟩ Q) :
    WalkL P m w0 F0 (.block 0 (.loop (.seq (.region i7 #[c7] false) (.seq (.cond (.tmp 37) .skip (.exit 0)) (.seq (.block 1 (.seq (.region i8 #[p1, p2, p3, p4, p5] false) (.region i9 #[o1, o2, o3, o4, o5, o6, o7, o8, o9] false))) (.region i10 #[r1, r2] false))))) :: l) S Q := by
  intro K a hi R hR
  obtain ⟨gp1, gp2, gp3, gp4, gp5⟩ := gp
  have hsz := hi.size
  -- the map, the row
  have q8 := hi.tm 8
  rw [s8] at q8
  simp only [RT] at q8
  obtain ⟨bm, sh, hσ, e8⟩ := q8
  have hro := hi.oi.objs om _ _ som hσ
  simp only [RO] at hro
  obtain ⟨b', ents, z1, hF, hbase, hh, hre, _⟩ := hro
  obtain ⟨rfl, rfl⟩ := Prod.mk.inj (Option.some.inj z1)
  simp only [REs] at hre
  have e35 := hi.tm 35
  rw [s35] at e35
  have e35 := RT_int e35
  have e36 := hi.tm 36
  rw [s36] at e36
  have e36 := RT_int e36
  obtain ⟨A, c, e34, hcap, hA⟩ := own_slice hi s34 spr
  have hcell : ∀ i x, xs[i]? = some x → ∃ b sh, A = some ⟨b, sh, none⟩ ∧ b < K.w.heap.size ∧ b ≠ bm ∧ K.w.cell? ⟨b, sh + i, none⟩ = some (.int .i64 x) := by
    intro i x hix
    rcases hA with rfl | ⟨b, sh2, hs, rfl⟩
    · simp at hix
    · obtain ⟨q1, q2⟩ := hi.holds spr hs
      have il : i < xs.length := by rcases Nat.lt_or_ge i xs.length with h' | h'; exact h'; simp [h'] at hix
      have q3 := (q1 i (by simpa using il)).1
      refine ⟨b, sh2, rfl, q2, ?_, ?_⟩
      · rintro rfl
        simp [World.cell?, hh] at q3
      · rw [q3]
        simp only [List.getElem!_toArray]
        rw [List.getElem!_eq_getElem?_getD, hix]; rfl
  refine wp_block (wp_loop_n (fun k a' w' => ∃ (i : Nat) (es : List RowE) (cl : Nat), i + k = xs.length + 1 ∧ i ≤ xs.length ∧ ActEq rowMod a a' ∧ a'.tmps.getD 36 undef = .int .i64 i ∧ Keeps bm K.w w' ∧ MapSt w' K.w.heap.size bm es cl ∧ (es.map Prod.fst, cl) = mapAll ([], 0) (xs.take i) 0 ∧ ∀ e ∈ es, e.1.2.1.length ≤ i) ?_ ?_ (k := xs.length + 1) ⟨0, [], 0, by omega, by omega, ActEq.refl _ _, e36, Keeps.refl _ _, ⟨by rw [hh]; congr 2; exact Array.toList_inj.1 hre, fun e he => by simp at he, List.nodup_nil, fun e he => by simp at he, heap_lt hh⟩, rfl, fun e he => by simp at he⟩)
  · rintro a' w' ⟨i, es, cl, hk, hi', _⟩
    omega
  · rintro k a' w' ⟨i, es, cl, hk, hile, hact, t36, hkeep, hms, hpure, hlen⟩
    have sz' : a'.tmps.size = m := hact.size.trans hsz
    have t35 : a'.tmps.getD 35 undef = .int .i64 xs.length := (hact.tm 35 (by unfold rowMod; omega)).trans e35
    have t34 : a'.tmps.getD 34 undef = .slice A xs.length c := (hact.tm 34 (by unfold rowMod; omega)).trans e34
    have t8 : a'.tmps.getD 8 undef = .map (some bm) := (hact.tm 8 (by unfold rowMod; omega)).trans e8
    have mk : ∀ d, rowMod d → d < a.tmps.size := fun d hd => by unfold rowMod at hd; omega
    refine wp_seq (wp_region_list ?_)
    refine wl_bin (u := .int .i64 i) (v := .int .i64 xs.length) (r := .bool (decide ((i : Int) < xs.length))) gc hc dc t36 t35 (bin_lss ..) ?_
    have hact1 := hact.put (d := 37) (v := .bool (decide ((i : Int) < xs.length))) (by unfold rowMod; omega) (mk 37 (by unfold rowMod; omega))
    show (Exit.then _ _) .normal _ w'
    show Code.wp P _ _ (a'.put (some 37) (.bool (decide ((i : Int) < xs.length)))) w'
    refine wp_seq ?_
    have t37 : (a'.put (some 37) (.bool (decide ((i : Int) < xs.length)))).eval (.tmp 37) = .bool (decide ((i : Int) < xs.length)) := getD_put1 (by rw [sz']; omega)
    refine wp_cond t37 ?_
    by_cases hlt : i < xs.length
    · rw [decide_eq_true (show (i : Int) < xs.length by omega)] at t37 hact1 ⊢
      rw [if_pos rfl]
      refine wp_skip ?_
      show Code.wp P _ _ (a'.put (some 37) (.bool true)) w'
      generalize ha1 : a'.put (some 37) (.bool true) = a1 at *
      have u36 : a1.tmps.getD 36 undef = .int .i64 i := by rw [← ha1, getD_put2 (by omega) (by omega)]; exact t36
      have u34 : a1.tmps.getD 34 undef = .slice A xs.length c := by rw [← ha1, getD_put2 (by omega) (by omega)]; exact t34
      obtain ⟨x, hxi⟩ : ∃ x, xs[i]? = some x := ⟨_, List.getElem?_eq_getElem hlt⟩
      obtain ⟨b, sh2, rfl, hbl, hbne, hcl⟩ := hcell i x hxi
      have hcl' : w'.cell? ⟨b, sh2 + i, none⟩ = some (.int .i64 x) := (cell_of_heap (hkeep.block b hbl hbne) _).trans hcl
      have sz1 : a1.tmps.size = m := hact1.size.trans hsz
      refine wp_seq (wp_block (wp_seq (wp_region_list ?_)))
      refine wl_move gp1 (.inl hp1) dp1 (show a1.eval (.tmp 36) = .int .i64 i from u36) ?_
      have B1 := hact1.put (d := 38) (v := .int .i64 i) (by unfold rowMod; omega) (mk 38 (by unfold rowMod; omega))
      refine wl_index (b := b) (off := sh2) (n := xs.length) (c := c) (k := i) gp2 hp2 dp2 ht.e ht.s ((getD_put2 (by omega) (by omega)).trans u34) ((getD_put2 (by omega) (by omega)).trans u36) (by omega) (by omega) ?_
      have B2 := B1.put (d := 39) (v := .pointer (some ⟨b, sh2 + (i : Int).toNat, none⟩)) (by unfold rowMod; omega) (mk 39 (by unfold rowMod; omega))
      refine wl_load (b := b) (off := sh2 + (i : Int).toNat) gp3 hp3 dp3 ht.a (getD_put1 (by simp only [put_size]; omega)) (by rw [Int.toNat_natCast]; exact hcl') ?_
      have B3 := B2.put (d := 40) (v := .int .i64 x) (by unfold rowMod; omega) (mk 40 (by unfold rowMod; omega))
      refine wl_move (v := .int .i64 i) gp4 (.inr hp4) dp4 (by
        show Array.getD _ _ _ = _
        rw [getD_put2 (by simp only [put_size]; omega) (by omega), getD_put2 (by simp only [put_size]; omega) (by omega), getD_put1 (by omega)]) ?_
      have B4 := B3.put (d := 9) (v := .int .i64 i) (by unfold rowMod; omega) (mk 9 (by unfold rowMod; omega))
      refine wl_move (v := .int .i64 x) gp5 (.inr hp5) dp5 (by
        show Array.getD _ _ _ = _
        rw [getD_put2 (by simp only [put_size]; omega) (by omega), getD_put1 (by simp only [put_size]; omega)]) ?_
      have B5 := B4.put (d := 10) (v := .int .i64 x) (by unfold rowMod; omega) (mk 10 (by unfold rowMod; omega))
      unfold wpList
      show Code.wp P _ _ _ w'
      refine wp_region_list ?_
      refine rows_r9 (k := (i : Int)) (x := x) ht g h1 d1 h2 d2 h3 d3 h4 d4 h5 d5 h6 d6 h7 d7 h8 d8 h9 d9 (by rw [B5.size]; omega) ((B5.tm 8 (by unfold rowMod; omega)).trans e8) (by rw [getD_put2 (by simp only [put_size]; omega) (by omega), getD_put1 (by simp only [put_size]; omega)]) (getD_put1 (by simp only [put_size]; omega)) hms hkeep.size (fun e he => by have := hlen e he; omega) ?_
      intro a9 w9 es9 cl9 hp9 hm9 hw9 hact9
      unfold wpList
      show Code.wp P _ _ a9 w9
      obtain ⟨w1, w2, w3, w4, w5⟩ := hw9
      have B9 : ActEq rowMod a a9 := ⟨hact9.size.trans B5.size, hact9.defers.trans B5.defers, fun t htm => (hact9.tm t (fun q => htm (by unfold rowMod; omega))).trans (B5.tm t htm)⟩
      have v36 : a9.tmps.getD 36 undef = .int .i64 i := by
        rw [hact9.tm 36 (by omega), getD_put2 (by simp only [put_size]; omega) (by omega), getD_put2 (by simp only [put_size]; omega) (by omega), getD_put2 (by simp only [put_size]; omega) (by omega), getD_put2 (by simp only [put_size]; omega) (by omega), getD_put2 (by omega) (by omega)]
        exact u36
      have sz9 : a9.tmps.size = m := B9.size.trans hsz
      refine wp_region_list ?_
      refine wl_bin (u := .int .i64 i) (v := .int .i64 1) (r := .int .i64 ((i + 1 : Nat) : Int)) gr1 hr1 dr1 v36 rfl (by
        have this : bin2 P .add te (.tmp 36) (.const (.int .i64 1)) (.c (.v (.int .i64 (i : Int)))) (.c (.v (.int .i64 1))) = some (.c (.v (.int .i64 (IntKind.i64.wrap ((i : Int) + 1))))) := bin_add ..
        rw [this]
        have e1 : IntKind.i64.wrap ((i : Int) + 1) = (i : Int) + 1 := w64 (by omega) (by omega)
        rw [e1]; rfl) ?_
      have C1 := B9.put (d := 49) (v := .int .i64 ((i + 1 : Nat) : Int)) (by unfold rowMod; omega) (mk 49 (by unfold rowMod; omega))
      refine wl_move gr2 (.inl hr2) dr2 (show Act.eval _ (.tmp 49) = _ from getD_put1 (by omega)) ?_
      have C2 := C1.put (d := 36) (v := .int .i64 ((i + 1 : Nat) : Int)) (by unfold rowMod; omega) (mk 36 (by unfold rowMod; omega))
      unfold wpList
      refine ⟨i + 1, es9, cl9, by omega, by omega, C2, getD_put1 (by simp only [put_size]; omega), ⟨w1.trans hkeep.os, w2.trans hkeep.tape, w3.trans hkeep.output, Nat.le_trans hkeep.size w4, fun k hk1 hk2 => (w5 k hk1 hk2).trans (hkeep.block k hk1 hk2)⟩, hm9, ?_, ?_⟩
      · rw [hp9, hpure, List.take_succ_eq_append_getElem hlt, mapAll_snoc]
        have : xs[i] = x := by rw [List.getElem?_eq_getElem hlt] at hxi; exact Option.some.inj hxi
        rw [this]
        congr 1
        simp; omega
      · intro e he
        have hl2 := mapIns_len (s := (es.map Prod.fst, cl)) (x := x) (k := (i : Int)) (i := i) (fun y hy => by
          obtain ⟨z, hz, rfl⟩ := List.mem_map.1 hy
          exact hlen z hz)
        rw [← hp9] at hl2
        exact hl2 e.1 (List.mem_map.2 ⟨e, he, rfl⟩)
    · rw [decide_eq_false (show ¬ (i : Int) < xs.length by omega)] at t37 hact1 ⊢
      rw [if_neg (by simp)]
      refine wp_exit ?_
      show Exit.inBlock 0 R (.exit 0) _ w'
      obtain rfl : i = xs.length := by omega
      rw [List.take_length] at hpure
      obtain ⟨K', hw, hinv⟩ := hi.rows som hσ hh hkeep hms hact1 hT
      have h' := hR .nor _ K' _ hinv (by
        have e1 : mapC (es.map Prod.fst) = mapC (mapAll ([], 0) xs 0).1 := by rw [← hpure]
        have e2 : cl = (mapAll ([], 0) xs 0).2 := by rw [← hpure]
        rw [e1, e2]; exact h)
      rw [hw] at h'
      exact h'
end
end Go.Proofs.Ytnbijiopcgfmfaa.Tev
