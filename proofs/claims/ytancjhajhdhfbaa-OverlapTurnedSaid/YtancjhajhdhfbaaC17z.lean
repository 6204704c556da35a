/- The region of OverlapTurned whose order is drawn: two chains of operations that meddle in every way, and what they come to. -/
import Derived.Test.YtancjhajhdhfbaaC17u
import Derived.Test.YtancjhajhdhfbaaC17x
import Derived.Test.YtancjhajhdhfbaaTevRow
import Derived.Test.YtancjhajhdhfbaaQStrip
namespace Go.Proofs.Ytancjhajhdhfbaa.Tev
open Go Go.RowKit Go.Proofs Go.Proofs.Ytancjhajhdhfbaa.Q
set_option linter.unusedSectionVars false
set_option maxRecDepth 100000
set_option maxHeartbeats 0
set_option linter.unusedSimpArgs false
set_option linter.unusedVariables false
noncomputable abbrev tBody : Code := codeOf Try.f4
noncomputable abbrev tP0 : Code := sA tBody
noncomputable abbrev tB1 : Code := sB tBody
noncomputable abbrev tP1 : Code := sA tB1
noncomputable abbrev tB2 : Code := sB tB1
noncomputable abbrev tP2 : Code := sA tB2
noncomputable abbrev tB3 : Code := sB tB2
noncomputable abbrev tP3 : Code := sA tB3
noncomputable abbrev tB4 : Code := sB tB3
noncomputable abbrev tP4 : Code := sA tB4
noncomputable abbrev tB5 : Code := sB tB4
noncomputable abbrev tP5 : Code := sA tB5
noncomputable abbrev tB6 : Code := sB tB5
noncomputable abbrev tP6 : Code := sA tB6
noncomputable abbrev tB7 : Code := sB tB6
noncomputable abbrev tR : Code := sA tB7
noncomputable abbrev tB8 : Code := sB tB7
noncomputable abbrev tP8 : Code := sA tB8
noncomputable abbrev tB9 : Code := sB tB8
noncomputable abbrev tP9 : Code := sA tB9
def opsOf : Code → Array Oper
  | .region _ o _ => o
  | _ => #[]
noncomputable abbrev tOps : Array Oper := opsOf tR
theorem tBody_eq : tBody = .seq tP0 (.seq tP1 (.seq tP2 (.seq tP3 (.seq tP4 (.seq tP5 (.seq tP6 (.seq tR (.seq tP8 (.seq tP9 .ret))))))))) := by kernel_rfl
theorem tR_eq : tR = .region 13 tOps true := by kernel_rfl
/-- What is done when x of the one and y of the other are. -/
def LL (x y : Nat) : Array Bool := #[decide (1 ≤ x), decide (2 ≤ x), decide (3 ≤ x), decide (1 ≤ y), decide (2 ≤ y), decide (3 ≤ y), decide (4 ≤ x), decide (5 ≤ x), false, false]
def nX (x : Nat) : Nat := if x ≤ 2 then x else x + 3
def nY (y : Nat) : Nat := y + 3
theorem rdy : ∀ x : Fin 6, ∀ y : Fin 4, (Region.ready .any tOps (LL x.1 y.1)).all (fun i => (decide (x.1 < 5) && decide (i = nX x.1)) || (decide (y.1 < 3) && decide (i = nY y.1)) || (decide (x.1 = 5) && decide (y.1 = 3) && decide (i = 8))) = true ∧ (Region.ready .any tOps (LL x.1 y.1)).isEmpty = false := by decide +kernel
theorem setX : ∀ x : Fin 5, ∀ y : Fin 4, (LL x.1 y.1).setIfInBounds (nX x.1) true = LL (x.1 + 1) y.1 := by decide +kernel
theorem setY : ∀ x : Fin 6, ∀ y : Fin 3, (LL x.1 y.1).setIfInBounds (nY y.1) true = LL x.1 (y.1 + 1) := by decide +kernel
theorem rdy8 : Region.ready .any tOps #[true, true, true, true, true, true, true, true, true, false] = [9] := by kernel_rfl
theorem rdy9 : Region.ready .any tOps #[true, true, true, true, true, true, true, true, true, true] = [] := by kernel_rfl
theorem opsGet : ∀ i : Fin 10, tOps[i.1]? = some (opAt i.1 tR) ∧ (opAt i.1 tR).guard = none := fun i => by
  have h : i.1 = 0 ∨ i.1 = 1 ∨ i.1 = 2 ∨ i.1 = 3 ∨ i.1 = 4 ∨ i.1 = 5 ∨ i.1 = 6 ∨ i.1 = 7 ∨ i.1 = 8 ∨ i.1 = 9 := by omega
  rcases h with h | h | h | h | h | h | h | h | h | h <;> rw [h] <;> exact ⟨by kernel_rfl, by kernel_rfl⟩
theorem opsDst : ∀ i : Fin 10, ∀ t, (opAt i.1 tR).dst = some t → t < Try.f4.ntmps := fun i t ht => by
  have h : i.1 = 0 ∨ i.1 = 1 ∨ i.1 = 2 ∨ i.1 = 3 ∨ i.1 = 4 ∨ i.1 = 5 ∨ i.1 = 6 ∨ i.1 = 7 ∨ i.1 = 8 ∨ i.1 = 9 := by omega
  have e : Try.f4.ntmps = 73 := by kernel_rfl
  have hd : (opAt i.1 tR).dst = none ∨ ∃ d, d < 73 ∧ (opAt i.1 tR).dst = some d := by
    rcases h with h | h | h | h | h | h | h | h | h | h <;> rw [h]
    · exact .inr ⟨48, by decide, by kernel_rfl⟩
    · exact .inr ⟨49, by decide, by kernel_rfl⟩
    · exact .inr ⟨50, by decide, by kernel_rfl⟩
    · exact .inr ⟨51, by decide, by kernel_rfl⟩
    · exact .inr ⟨52, by decide, by kernel_rfl⟩
    · exact .inr ⟨53, by decide, by kernel_rfl⟩
    · exact .inr ⟨54, by decide, by kernel_rfl⟩
    · exact .inl (by kernel_rfl)
    · exact .inr ⟨55, by decide, by kernel_rfl⟩
    · exact .inl (by kernel_rfl)
  rcases hd with hd | ⟨d, h1, h2⟩
  · rw [hd] at ht; simp at ht
  · rw [h2] at ht; obtain rfl := Option.some.inj ht; rw [e]; exact h1
section
variable (S0 : St) (ar a : Int) (s : T) (ar' b : Int) (s' : T)
/-- The states on the way. -/
structure Rel (x y : Nat) (S : St) : Prop where
  old : ∀ t, t < 48 ∨ 56 ≤ t → get S.t t = get S0.t t
  n : S.n = S0.n
  x1 : 1 ≤ x → get S.t 48 = .pt 0 1
  x2 : 2 ≤ x → get S.t 49 = I a
  x3 : 3 ≤ x → get S.t 50 = I (IntKind.i64.wrap (a + 7))
  x4 : 4 ≤ x → get S.t 54 = .pt 0 1
  y1 : 1 ≤ y → get S.t 51 = .pt 1 1
  y2 : 2 ≤ y → get S.t 52 = I b
  y3 : 3 ≤ y → get S.t 53 = I (IntKind.i64.wrap (b + 7))
  o0 : obj S.o 0 = some (.box [I ar, I (if 5 ≤ x then IntKind.i64.wrap (a + 7) else a), s])
  o1 : obj S.o 1 = some (.box [I ar', I b, s'])
  oo : ∀ q, q ≠ 0 → q ≠ 1 → obj S.o q = obj S0.o q
variable {S0 ar a s ar' b s'}
theorem Rel.putX {x y : Nat} {S : St} (h : Rel S0 ar a s ar' b s' x y S) (d : Nat) (v : T) (hx : x < 4) (hd : (x = 0 ∧ d = 48 ∧ v = .pt 0 1) ∨ (x = 1 ∧ d = 49 ∧ v = I a) ∨ (x = 2 ∧ d = 50 ∧ v = I (IntKind.i64.wrap (a + 7))) ∨ (x = 3 ∧ d = 54 ∧ v = .pt 0 1)) :
    Rel S0 ar a s ar' b s' (x + 1) y ⟨(d, v) :: S.t, S.o, S.n⟩ := by
  have hg : ∀ t, t ≠ d → get ((d, v) :: S.t) t = get S.t t := fun t ht => by simp [get, Ne.symm ht]
  have hs : get ((d, v) :: S.t) d = v := by simp [get]
  have hb : d = 48 ∨ d = 49 ∨ d = 50 ∨ d = 54 := by omega
  refine ⟨fun t ht => (hg t (by omega)).trans (h.old t ht), h.n, fun h1 => ?_, fun h1 => ?_, fun h1 => ?_, fun h1 => ?_, fun h1 => (hg 51 (by omega)).trans (h.y1 h1), fun h1 => (hg 52 (by omega)).trans (h.y2 h1), fun h1 => (hg 53 (by omega)).trans (h.y3 h1), ?_, h.o1, h.oo⟩
  · show get ((d, v) :: S.t) 48 = _
    rcases hd with ⟨_, rfl, rfl⟩ | ⟨_, rfl, rfl⟩ | ⟨_, rfl, rfl⟩ | ⟨_, rfl, rfl⟩
    · exact hs
    all_goals exact (hg 48 (by omega)).trans (h.x1 (by omega))
  · show get ((d, v) :: S.t) 49 = _
    rcases hd with ⟨_, rfl, rfl⟩ | ⟨_, rfl, rfl⟩ | ⟨_, rfl, rfl⟩ | ⟨_, rfl, rfl⟩
    · omega
    · exact hs
    all_goals exact (hg 49 (by omega)).trans (h.x2 (by omega))
  · show get ((d, v) :: S.t) 50 = _
    rcases hd with ⟨_, rfl, rfl⟩ | ⟨_, rfl, rfl⟩ | ⟨_, rfl, rfl⟩ | ⟨_, rfl, rfl⟩
    · omega
    · omega
    · exact hs
    · exact (hg 50 (by omega)).trans (h.x3 (by omega))
  · show get ((d, v) :: S.t) 54 = _
    rcases hd with ⟨_, rfl, rfl⟩ | ⟨_, rfl, rfl⟩ | ⟨_, rfl, rfl⟩ | ⟨_, rfl, rfl⟩
    · omega
    · omega
    · omega
    · exact hs
  · have := h.o0
    rw [if_neg (by omega)] at this
    show obj S.o 0 = _
    rw [if_neg (by omega)]
    exact this
theorem Rel.putY {x y : Nat} {S : St} (h : Rel S0 ar a s ar' b s' x y S) (d : Nat) (v : T) (hd : (y = 0 ∧ d = 51 ∧ v = .pt 1 1) ∨ (y = 1 ∧ d = 52 ∧ v = I b) ∨ (y = 2 ∧ d = 53 ∧ v = I (IntKind.i64.wrap (b + 7)))) :
    Rel S0 ar a s ar' b s' x (y + 1) ⟨(d, v) :: S.t, S.o, S.n⟩ := by
  have hg : ∀ t, t ≠ d → get ((d, v) :: S.t) t = get S.t t := fun t ht => by simp [get, Ne.symm ht]
  have hs : get ((d, v) :: S.t) d = v := by simp [get]
  have hb : d = 51 ∨ d = 52 ∨ d = 53 := by omega
  refine ⟨fun t ht => (hg t (by omega)).trans (h.old t ht), h.n, fun h1 => (hg 48 (by omega)).trans (h.x1 h1), fun h1 => (hg 49 (by omega)).trans (h.x2 h1), fun h1 => (hg 50 (by omega)).trans (h.x3 h1), fun h1 => (hg 54 (by omega)).trans (h.x4 h1), fun h1 => ?_, fun h1 => ?_, fun h1 => ?_, h.o0, h.o1, h.oo⟩
  · show get ((d, v) :: S.t) 51 = _
    rcases hd with ⟨_, rfl, rfl⟩ | ⟨_, rfl, rfl⟩ | ⟨_, rfl, rfl⟩
    · exact hs
    all_goals exact (hg 51 (by omega)).trans (h.y1 (by omega))
  · show get ((d, v) :: S.t) 52 = _
    rcases hd with ⟨_, rfl, rfl⟩ | ⟨_, rfl, rfl⟩ | ⟨_, rfl, rfl⟩
    · omega
    · exact hs
    · exact (hg 52 (by omega)).trans (h.y2 (by omega))
  · show get ((d, v) :: S.t) 53 = _
    rcases hd with ⟨_, rfl, rfl⟩ | ⟨_, rfl, rfl⟩ | ⟨_, rfl, rfl⟩
    · omega
    · omega
    · exact hs
theorem Rel.putS {y : Nat} {S : St} (h : Rel S0 ar a s ar' b s' 4 y S) : Rel S0 ar a s ar' b s' 5 y ⟨S.t, setO 0 (.box [I ar, I (IntKind.i64.wrap (a + 7)), s]) S.o, S.n⟩ := by
  refine ⟨h.old, h.n, fun _ => h.x1 (by omega), fun _ => h.x2 (by omega), fun _ => h.x3 (by omega), fun _ => h.x4 (by omega), h.y1, h.y2, h.y3, ?_, ?_, fun q q0 q1 => ?_⟩
  · show obj (setO 0 _ S.o) 0 = _
    rw [obj_setO, if_pos rfl, h.o0]
    rfl
  · show obj (setO 0 _ S.o) 1 = _
    rw [obj_setO, if_neg (by omega)]
    exact h.o1
  · show obj (setO 0 _ S.o) q = _
    rw [obj_setO, if_neg q0]
    exact h.oo q q0 q1
/-! The operations, one by one. -/
variable {cl : FuncId → List T → Option R} {S : St}
theorem op_fa (o : Nat) (i : Nat) (d p : Nat) (h : get S.t p = .pt o 0) (hi : (i = 0 ∧ d = 48 ∧ p = 4) ∨ (i = 3 ∧ d = 51 ∧ p = 5) ∨ (i = 6 ∧ d = 54 ∧ p = 4) ∨ (i = 8 ∧ d = 55 ∧ p = 5)) : opA E0 cl true S (opAt i tR) = some ⟨(d, .pt o 1) :: S.t, S.o, S.n⟩ := by
  rcases hi with ⟨rfl, rfl, rfl⟩ | ⟨rfl, rfl, rfl⟩ | ⟨rfl, rfl, rfl⟩ | ⟨rfl, rfl, rfl⟩
  all_goals simp (config := { maxSteps := 1000000 }) (disch := omega) only [push_cast, ↓reduceIte, Nat.reduceEqDiff, Nat.reduceAdd, Nat.reduceLT, Nat.reduceLeDiff, Nat.reduceBEq, Nat.reduceMul, Nat.reduceSub, Int.reduceToNat, Int.reduceEq, Int.reduceLT, Int.reduceLE, Int.reduceNeg, Int.reduceAdd, Int.reduceSub, Int.reduceMul, Try.f4, kr4, ty3, ty4, ty22, ty24, tb4, opA, opAt, tR, tBody, tB1, tB2, tB3, tB4, tB5, tB6, tB7, sA, sB, h, St.add]
  all_goals rfl
theorem op_ld (o : Nat) (i : Nat) (d p : Nat) (v w : Int) (z : T) (h : get S.t p = .pt o 1) (ho : obj S.o o = some (.box [I v, I w, z])) (hi : (i = 1 ∧ d = 49 ∧ p = 48) ∨ (i = 4 ∧ d = 52 ∧ p = 51)) : opA E0 cl true S (opAt i tR) = some ⟨(d, I w) :: S.t, S.o, S.n⟩ := by
  rcases hi with ⟨rfl, rfl, rfl⟩ | ⟨rfl, rfl, rfl⟩
  all_goals simp (config := { maxSteps := 1000000 }) (disch := omega) only [push_cast, ↓reduceIte, Nat.reduceEqDiff, Nat.reduceAdd, Nat.reduceLT, Nat.reduceLeDiff, Nat.reduceBEq, Nat.reduceMul, Nat.reduceSub, Int.reduceToNat, Int.reduceEq, Int.reduceLT, Int.reduceLE, Int.reduceNeg, Int.reduceAdd, Int.reduceSub, Int.reduceMul, Try.f4, kr4, ty3, ty4, ty22, ty24, tb4, opA, opAt, tR, tBody, tB1, tB2, tB3, tB4, tB5, tB6, tB7, sA, sB, h, ho, St.add]
  all_goals rfl
theorem op_add (i : Nat) (d p : Nat) (w : Int) (h : get S.t p = I w) (hi : (i = 2 ∧ d = 50 ∧ p = 49) ∨ (i = 5 ∧ d = 53 ∧ p = 52)) : opA E0 cl true S (opAt i tR) = some ⟨(d, I (IntKind.i64.wrap (w + 7))) :: S.t, S.o, S.n⟩ := by
  rcases hi with ⟨rfl, rfl, rfl⟩ | ⟨rfl, rfl, rfl⟩
  all_goals simp (config := { maxSteps := 1000000 }) (disch := omega) only [push_cast, ↓reduceIte, Nat.reduceEqDiff, Nat.reduceAdd, Nat.reduceLT, Nat.reduceLeDiff, Nat.reduceBEq, Nat.reduceMul, Nat.reduceSub, Int.reduceToNat, Int.reduceEq, Int.reduceLT, Int.reduceLE, Int.reduceNeg, Int.reduceAdd, Int.reduceSub, Int.reduceMul, Try.f4, kr4, ty3, ty4, ty22, ty24, tb4, opA, opAt, tR, tBody, tB1, tB2, tB3, tB4, tB5, tB6, tB7, sA, sB, h, St.add]
  all_goals rfl
theorem op_st (o : Nat) (i : Nat) (p q : Nat) (v w w' : Int) (z : T) (h : get S.t p = .pt o 1) (h2 : get S.t q = I w') (ho : obj S.o o = some (.box [I v, I w, z])) (hi : (i = 7 ∧ p = 54 ∧ q = 50) ∨ (i = 9 ∧ p = 55 ∧ q = 53)) : opA E0 cl true S (opAt i tR) = some ⟨S.t, setO o (.box [I v, I w', z]) S.o, S.n⟩ := by
  rcases hi with ⟨rfl, rfl, rfl⟩ | ⟨rfl, rfl, rfl⟩
  all_goals simp (config := { maxSteps := 1000000 }) (disch := omega) only [push_cast, ↓reduceIte, Nat.reduceEqDiff, Nat.reduceAdd, Nat.reduceLT, Nat.reduceLeDiff, Nat.reduceBEq, Nat.reduceMul, Nat.reduceSub, Int.reduceToNat, Int.reduceEq, Int.reduceLT, Int.reduceLE, Int.reduceNeg, Int.reduceAdd, Int.reduceSub, Int.reduceMul, Try.f4, kr4, ty3, ty4, ty22, ty24, tb4, opA, opAt, tR, tBody, tB1, tB2, tB3, tB4, tB5, tB6, tB7, sA, sB, h, h2, ho, St.add, storeT]
  all_goals rfl
end
section
variable {S0 : St} {ar a : Int} {s : T} {ar' b : Int} {s' : T} {w0 : World} {F0 : Nat → Prop} {Q : Exit → Act → World → Prop}
theorem opGet {i : Nat} (hi : i < 10) : tOps[i]? = some (opAt i tR) ∧ (opAt i tR).guard = none := opsGet ⟨i, hi⟩
theorem opDst {i : Nat} (hi : i < 10) : ∀ t, (opAt i tR).dst = some t → t < Try.f4.ntmps := opsDst ⟨i, hi⟩
theorem any_step {P : Program} {ops : Array Oper} {listed : Array Bool} {fuel : Nat} {ac : Act} {w : World} (hne : (Region.ready .any ops listed).isEmpty = false) (h : ∀ i ∈ Region.ready .any ops listed, ∃ o, ops[i]? = some o ∧ o.guard = none ∧ o.wp P ac w (wpAny P .any ops Q fuel (listed.setIfInBounds i true)) Q) : wpAny P .any ops Q (fuel + 1) listed ac w := by
  refine ⟨fun h0 => ?_, fun i hi => ?_⟩
  · rw [h0] at hne; simp at hne
  · obtain ⟨o, h1, h2, h3⟩ := h i hi
    unfold wpOp
    rw [h1]
    simp only
    rw [if_pos (by simp [Region.wanted, h2])]
    exact .inl h3
/-- In every order. -/
theorem grid (hend : ∀ S K ac, Rel S0 ar a s ar' b s' 5 3 S → Inv Try.f4.ntmps w0 F0 K S ac → wpAny E0.P .any tOps Q 2 (LL 5 3) ac K.w) :
    ∀ (m x y : Nat), (5 - x) + (3 - y) = m → x ≤ 5 → y ≤ 3 → ∀ S K ac, Rel S0 ar a s ar' b s' x y S → Inv Try.f4.ntmps w0 F0 K S ac → get S0.t 4 = .pt 0 0 → get S0.t 5 = .pt 1 0 → wpAny E0.P .any tOps Q (m + 2) (LL x y) ac K.w := by
  intro m
  induction m with
  | zero =>
    intro x y hm hx hy S K ac hr hi _ _
    obtain rfl : x = 5 := by omega
    obtain rfl : y = 3 := by omega
    exact hend S K ac hr hi
  | succ m ih =>
    intro x y hm hx hy S K ac hr hi h4 h5
    obtain ⟨k1, k2⟩ := rdy ⟨x, by omega⟩ ⟨y, by omega⟩
    refine any_step k2 fun i hii => ?_
    have hw := List.all_eq_true.1 k1 i hii
    simp only [Bool.or_eq_true, Bool.and_eq_true, decide_eq_true_eq] at hw
    have s4 : get S.t 4 = .pt 0 0 := (hr.old 4 (by omega)).trans h4
    have s5 : get S.t 5 = .pt 1 0 := (hr.old 5 (by omega)).trans h5
    have go : ∀ {S1 : St} {x1 y1 : Nat}, opA E0 (lim E0 pr2).call true S (opAt i tR) = some S1 → Rel S0 ar a s ar' b s' x1 y1 S1 → (LL x y).setIfInBounds i true = LL x1 y1 → (5 - x1) + (3 - y1) = m → x1 ≤ 5 → y1 ≤ 3 → i < 10 →
        ∃ o, tOps[i]? = some o ∧ o.guard = none ∧ o.wp E0.P ac K.w (wpAny E0.P .any tOps Q (m + 2) ((LL x y).setIfInBounds i true)) Q := fun {S1 x1 y1} ho hr1 hl e1 e2 e3 e4 => by
      obtain ⟨g1, g2⟩ := opGet e4
      refine ⟨_, g1, g2, opA_sound (lim_sound mixed pr2_ok) hi (opDst e4) ho fun K' a' hi' => ?_⟩
      rw [hl]
      exact ih x1 y1 e1 e2 e3 S1 K' a' hr1 hi' h4 h5
    rcases hw with (⟨hx5, rfl⟩ | ⟨hy3, rfl⟩) | ⟨⟨rfl, rfl⟩, _⟩
    · have hset := setX ⟨x, hx5⟩ ⟨y, by omega⟩
      have hxx : x = 0 ∨ x = 1 ∨ x = 2 ∨ x = 3 ∨ x = 4 := by omega
      rcases hxx with rfl | rfl | rfl | rfl | rfl
      · exact go (op_fa 0 0 48 4 s4 (.inl ⟨rfl, rfl, rfl⟩)) (hr.putX 48 (.pt 0 1) (by omega) (.inl ⟨rfl, rfl, rfl⟩)) hset (by omega) (by omega) (by omega) (by decide)
      · exact go (op_ld 0 1 49 48 ar a s (hr.x1 (by omega)) (by have := hr.o0; rwa [if_neg (by omega)] at this) (.inl ⟨rfl, rfl, rfl⟩)) (hr.putX 49 (I a) (by omega) (.inr (.inl ⟨rfl, rfl, rfl⟩))) hset (by omega) (by omega) (by omega) (by decide)
      · exact go (op_add 2 50 49 a (hr.x2 (by omega)) (.inl ⟨rfl, rfl, rfl⟩)) (hr.putX 50 _ (by omega) (.inr (.inr (.inl ⟨rfl, rfl, rfl⟩)))) hset (by omega) (by omega) (by omega) (by decide)
      · exact go (op_fa 0 6 54 4 s4 (.inr (.inr (.inl ⟨rfl, rfl, rfl⟩)))) (hr.putX 54 (.pt 0 1) (by omega) (.inr (.inr (.inr ⟨rfl, rfl, rfl⟩)))) hset (by omega) (by omega) (by omega) (by decide)
      · exact go (op_st 0 7 54 50 ar a _ s (hr.x4 (by omega)) (hr.x3 (by omega)) (by have := hr.o0; rwa [if_neg (by omega)] at this) (.inl ⟨rfl, rfl, rfl⟩)) hr.putS hset (by omega) (by omega) (by omega) (by decide)
    · have hset := setY ⟨x, by omega⟩ ⟨y, hy3⟩
      have hyy : y = 0 ∨ y = 1 ∨ y = 2 := by omega
      rcases hyy with rfl | rfl | rfl
      · exact go (op_fa 1 3 51 5 s5 (.inr (.inl ⟨rfl, rfl, rfl⟩))) (hr.putY 51 (.pt 1 1) (.inl ⟨rfl, rfl, rfl⟩)) hset (by omega) (by omega) (by omega) (by decide)
      · exact go (op_ld 1 4 52 51 ar' b s' (hr.y1 (by omega)) hr.o1 (.inr ⟨rfl, rfl, rfl⟩)) (hr.putY 52 (I b) (.inr (.inl ⟨rfl, rfl, rfl⟩))) hset (by omega) (by omega) (by omega) (by decide)
      · exact go (op_add 5 53 52 b (hr.y2 (by omega)) (.inr ⟨rfl, rfl, rfl⟩)) (hr.putY 53 _ (.inr (.inr ⟨rfl, rfl, rfl⟩))) hset (by omega) (by omega) (by omega) (by decide)
    · omega
theorem Inv.weak {m : Nat} {K : Ctx} {S S' : St} {ac : Act} (h : Inv m w0 F0 K S ac) (ht : ∀ t, get S'.t t = get S.t t ∨ get S'.t t = .junk) (hn : S'.n = S.n) (ho : ∀ q, obj S'.o q = obj S.o q) : Inv m w0 F0 K S' ac := { h with
  tm := fun t => by
    rcases ht t with h1 | h1
    · rw [h1]; exact h.tm t
    · rw [h1]; simp only [RT]
  oi := (show obj S'.o = obj S.o from funext ho) ▸ h.oi
  fresh := fun o hh => h.fresh o (by omega)
  grp := fun o l g e hh => by rw [ho] at hh; rw [hn]; exact h.grp o l g e hh }
/-- The region as a step of a walk. -/
theorem walk_turned {l : List Code} {Qw : Ex → St → Prop} (h4 : get S0.t 4 = .pt 0 0) (h5 : get S0.t 5 = .pt 1 0) (h0 : obj S0.o 0 = some (.box [I ar, I a, s])) (h1 : obj S0.o 1 = some (.box [I ar', I b, s'])) (hj : ∀ t, 48 ≤ t → t < 56 → get S0.t t = .junk)
    (h : WalkL E0.P Try.f4.ntmps w0 F0 l ⟨S0.t, setO 1 (.box [I ar', I (IntKind.i64.wrap (b + 7)), s']) (setO 0 (.box [I ar, I (IntKind.i64.wrap (a + 7)), s]) S0.o), S0.n⟩ Qw) :
    WalkL E0.P Try.f4.ntmps w0 F0 (tR :: l) S0 Qw := by
  intro K ac hi R hR
  rw [tR_eq]
  refine wp_region_any mixed ?_
  have hsz : tOps.size = 8 + 2 := by kernel_rfl
  rw [hsz, show Array.replicate (8 + 2) false = LL 0 0 from rfl]
  refine grid (S0 := S0) (ar := ar) (a := a) (s := s) (ar' := ar') (b := b) (s' := s') (fun S K ac hr hi => ?_) 8 0 0 rfl (by omega) (by omega) S0 _ ac ⟨fun _ _ => rfl, rfl, fun h => by omega, fun h => by omega, fun h => by omega, fun h => by omega, fun h => by omega, fun h => by omega, fun h => by omega, h0, h1, fun _ _ _ => rfl⟩ hi.drew h4 h5
  have k2 : (Region.ready .any tOps (LL 5 3)).isEmpty = false := by kernel_rfl
  have k8 : Region.ready .any tOps (LL 5 3) = [8] := by kernel_rfl
  refine any_step k2 fun i hii => ?_
  rw [k8] at hii
  obtain rfl : i = 8 := by simpa using hii
  obtain ⟨g1, g2⟩ := opGet (i := 8) (by decide)
  have s5 : get S.t 5 = .pt 1 0 := (hr.old 5 (by omega)).trans h5
  refine ⟨_, g1, g2, opA_sound (lim_sound mixed pr2_ok) hi (opDst (by decide)) (op_fa 1 8 55 5 s5 (.inr (.inr (.inr ⟨rfl, rfl, rfl⟩)))) fun K1 a1 hi1 => ?_⟩
  rw [show (LL 5 3).setIfInBounds 8 true = #[true, true, true, true, true, true, true, true, true, false] from rfl]
  refine any_step (by rw [rdy8]; rfl) fun i hii => ?_
  rw [rdy8] at hii
  obtain rfl : i = 9 := by simpa using hii
  obtain ⟨g1, g2⟩ := opGet (i := 9) (by decide)
  have t53 : get ((55, T.pt 1 1) :: S.t) 53 = I (IntKind.i64.wrap (b + 7)) := by
    rw [show get ((55, T.pt 1 1) :: S.t) 53 = get S.t 53 by simp [get]]
    exact hr.y3 (by omega)
  refine ⟨_, g1, g2, opA_sound (lim_sound mixed pr2_ok) hi1 (opDst (by decide)) (op_st 1 9 55 53 ar' b _ s' (by simp [get]) t53 hr.o1 (.inr ⟨rfl, rfl, rfl⟩)) fun K2 a2 hi2 => ?_⟩
  rw [show (#[true, true, true, true, true, true, true, true, true, false] : Array Bool).setIfInBounds 9 true = #[true, true, true, true, true, true, true, true, true, true] from rfl]
  refine ⟨rdy9, ?_⟩
  refine hR .nor _ K2 a2 (hi2.weak (S' := ⟨S0.t, setO 1 (.box [I ar', I (IntKind.i64.wrap (b + 7)), s']) (setO 0 (.box [I ar, I (IntKind.i64.wrap (a + 7)), s]) S0.o), S0.n⟩) (fun t => ?_) hr.n.symm fun q => ?_) h
  · by_cases ht : 48 ≤ t ∧ t < 56
    · exact .inr (hj t ht.1 ht.2)
    · refine .inl ?_
      show get S0.t t = get ((55, T.pt 1 1) :: S.t) t
      rw [show get ((55, T.pt 1 1) :: S.t) t = get S.t t by simp [get, show ¬ 55 = t by omega]]
      exact (hr.old t (by omega)).symm
  · show obj (setO 1 _ (setO 0 _ S0.o)) q = obj (setO 1 _ S.o) q
    rw [obj_setO, obj_setO, obj_setO]
    by_cases q1 : q = 1
    · subst q1
      rw [if_pos rfl, if_pos rfl, if_neg (by omega), h1, hr.o1]
    · rw [if_neg q1, if_neg q1]
      by_cases q0 : q = 0
      · subst q0
        rw [if_pos rfl, h0, hr.o0, if_pos (by omega)]
        rfl
      · rw [if_neg q0]
        exact (hr.oo q q0 q1).symm
end
theorem nOB : ¬ (ByteArray.mk #[111, 110]) = (ByteArray.mk #[98, 97, 99, 107]) := by decide
theorem nBO : ¬ (ByteArray.mk #[98, 97, 99, 107]) = (ByteArray.mk #[111, 110]) := by decide
theorem dimP_shift (c s : Int) (out : List Int) (n : Nat) : dimP (out.map (· + c)) s n = (dimP out s n).map (· + c) := by
  unfold dimP
  rw [List.map_flatMap, List.flatMap_def, List.flatMap_def]
  congr 1
  refine List.map_congr_left fun t _ => ?_
  rw [List.map_map, List.map_map]
  refine List.map_congr_left fun x _ => ?_
  show x + c + t * s = x + t * s + c
  omega
theorem plP_shift (c : Int) : ∀ (E S out : List Int), plP E S (out.map (· + c)) = (plP E S out).map (· + c)
  | [], S, out => by simp [plP]
  | n :: E, [], out => by simp [plP]
  | n :: E, s :: S, out => by rw [plP, plP, dimP_shift, plP_shift c E S]
theorem plcR_okR {b : Int} {E S : List Int} (h : okR b E S) (hb : -100000000 ≤ b ∧ b ≤ 100000000) : plcR b E S = if pr E = 0 then [] else plP E S [b] := by
  unfold plcR
  by_cases h0 : pr E = 0
  · rw [if_pos h0, if_pos h0]
  · rw [if_neg h0, if_neg h0]
    refine plcW_plP E S [b] 3 (by omega) h.1.1.1.2 h.2.1 (fun e he => by have := okX_pos h.1 h0 e he; omega) (fun s hs => by have := h.2.2.2 s hs; unfold near at this; unfold nearS; omega) fun x hx => ?_
    simp only [List.mem_cons, List.not_mem_nil, or_false] at hx
    subst hx
    omega
theorem placesR_shift {b : Int} {E S : List Int} (h : okR b E S) (h' : okR (b + 7) E S) : placesR (b + 7) E S = (placesR b E S).map (· + 7) := by
  have h1 := h.2.2.1
  unfold near at h1
  unfold placesR
  rw [if_pos h, if_pos h', plcR_okR h (by omega), plcR_okR h' (by omega)]
  by_cases h0 : pr E = 0
  · rw [if_pos h0, if_pos h0]; rfl
  · rw [if_neg h0, if_neg h0]
    exact plP_shift 7 E S [b]
section
variable (ar a : Int) (E S : List Int) (ar' b : Int) (S' : List Int)
theorem apart_cast (L : List (Nat × Nat)) : apartL (castP L) = diffs L := by
  unfold apartL castP diffs
  rw [List.map_map]
  rfl
theorem way_turn : wayC (distL ar' b E S' ar a S) = turnC (wayC (distL ar a E S ar' b S')) := by
  rw [show wayC (distL ar' b E S' ar a S) = wayC (apartL (meetL ar' b E S' ar a S)) from wayC_ext (setQ_mem _), show wayC (distL ar a E S ar' b S') = wayC (apartL (meetL ar a E S ar' b S')) from wayC_ext (setQ_mem _)]
  unfold meetL
  by_cases h : (okR a E S ∧ okR b E S') ∧ ar = ar'
  · rw [if_pos h, if_pos ⟨⟨h.1.2, h.1.1⟩, h.2.symm⟩, apart_cast, apart_cast, wayC_turn]
  · rw [if_neg h, if_neg (fun q => h ⟨⟨q.1.2, q.1.1⟩, q.2.symm⟩)]
    rfl
theorem errRR_comm : errRR b E S' a S = errRR a E S b S' := by
  unfold errRR
  by_cases h : okR a E S ∧ okR b E S'
  · rw [if_pos h, if_pos ⟨h.2, h.1⟩]
  · rw [if_neg h, if_neg (fun q => h ⟨q.2, q.1⟩)]
theorem way_cases (he : errRR a E S b S' = 0) :
    (wayQ ar a E S ar' b S' = (ByteArray.mk #[111, 110]) ∧ wayQ ar' b E S' ar a S = (ByteArray.mk #[98, 97, 99, 107])) ∨ (wayQ ar a E S ar' b S' = (ByteArray.mk #[98, 97, 99, 107]) ∧ wayQ ar' b E S' ar a S = (ByteArray.mk #[111, 110])) ∨
      (¬ wayQ ar a E S ar' b S' = (ByteArray.mk #[111, 110]) ∧ ¬ wayQ ar a E S ar' b S' = (ByteArray.mk #[98, 97, 99, 107]) ∧ wayQ ar' b E S' ar a S = wayQ ar a E S ar' b S') := by
  have ht := way_turn ar a E S ar' b S'
  unfold wayQ
  rw [errRR_comm a E S b S', if_pos he, if_pos he, ht]
  generalize wayC (distL ar a E S ar' b S') = c
  have hc : c = 0 ∨ c = 1 ∨ c = 2 ∨ c = 3 ∨ 4 ≤ c := by omega
  rcases hc with rfl | rfl | rfl | rfl | hc
  · exact .inr (.inr ⟨by decide, by decide, rfl⟩)
  · exact .inr (.inr ⟨by decide, by decide, rfl⟩)
  · exact .inl ⟨rfl, rfl⟩
  · exact .inr (.inl ⟨rfl, rfl⟩)
  · have e1 : turnC c = c := by unfold turnC; rw [if_neg (by omega), if_neg (by omega)]
    have e2 : wayS c = ⟨#[98, 111, 116, 104]⟩ := by unfold wayS; rw [if_neg (by omega), if_neg (by omega), if_neg (by omega), if_neg (by omega)]
    rw [e1, e2]
    exact .inr (.inr ⟨by decide, by decide, rfl⟩)
theorem way_shift (he : errRR a E S b S' = 0) (he2 : errRR (a + 7) E S (b + 7) S' = 0) : wayQ ar (a + 7) E S ar' (b + 7) S' = wayQ ar a E S ar' b S' := by
  have h1 : okR a E S ∧ okR b E S' := by unfold errRR at he; split at he; assumption; simp at he
  have h2 : okR (a + 7) E S ∧ okR (b + 7) E S' := by unfold errRR at he2; split at he2; assumption; simp at he2
  have hm : meetL ar (a + 7) E S ar' (b + 7) S' = meetL ar a E S ar' b S' := by
    unfold meetL
    by_cases h : ar = ar'
    · rw [if_pos ⟨h2, h⟩, if_pos ⟨h1, h⟩, placesR_shift h1.1 h2.1, placesR_shift h1.2 h2.2]
      unfold pairsQ
      rw [pairsF_shift]
    · rw [if_neg (fun q => h q.2), if_neg (fun q => h q.2)]
  unfold wayQ distL
  rw [he, he2, hm]
theorem tGood : ∀ c ∈ [tP0, tP1, tP2, tP3, tP4, tP5, tP6, tP8, tP9], (∀ b ∈ loopsOf c, b ∈ loopsOf tBody) ∧ okCode Try.f4.ntmps c = true := by
  have h : ∀ c ∈ [tP0, tP1, tP2, tP3, tP4, tP5, tP6, tP8, tP9], loopsOf c = [] ∧ okCode Try.f4.ntmps c = true := by
    intro c hc
    simp only [List.mem_cons, List.not_mem_nil, or_false] at hc
    rcases hc with rfl | rfl | rfl | rfl | rfl | rfl | rfl | rfl | rfl <;> exact ⟨by kernel_rfl, by kernel_rfl⟩
  exact fun c hc => ⟨fun b hb => by rw [(h c hc).1] at hb; simp at hb, (h c hc).2⟩
theorem tLoops (id : Nat) : findLoop id tBody = none := by kernel_rfl
theorem turned_R (hE : (E.length : Int) ≤ 9223372036854775806) (hS : (S.length : Int) ≤ 9223372036854775806) (hS' : (S'.length : Int) ≤ 9223372036854775806) :
    CallsR E0.P 4 [SL true none E.length (ints E), Rf ar a true none S, Rf ar' b true none S'] (B true, []) := by
  have g1 := s2_Way ar a true true true none none none E S ar' b S' hE hS hS'
  have g2 := s2_Way ar' b true true true none none none E S' ar a S hE hS' hS
  have g3 := s2_Way ar (a + 7) true true true none none none E S ar' (b + 7) S' hE hS hS'
  have hlp : ∀ w0 F0, LoopOK E0 Try.f4.ntmps w0 F0 tBody ((lim E0 pr2).loop 4) := fun w0 F0 id S e S' h b hb => by
    rw [tLoops id] at hb; simp at hb
  have hnd : nodupB ((loopsOf tBody).map firstId) = true := by kernel_rfl
  rw [errRR_comm] at g2
  refine walk_fun (E := E0) fn4 (by kernel_rfl) (show Try.f4.body = some tBody by kernel_rfl) (Nat.le_of_ble_eq_true (by kernel_rfl)) fun w F => ?_
  rw [show ([tBody] : List Code) = [Code.seq tP0 (.seq tP1 (.seq tP2 (.seq tP3 (.seq tP4 (.seq tP5 (.seq tP6 (.seq tR (.seq tP8 (.seq tP9 .ret)))))))))] from congrArg (fun c => [c]) tBody_eq]
  refine walk_assoc [] (walk_assoc [tP0] (walk_assoc [tP0, tP1] (walk_assoc [tP0, tP1, tP2] (walk_assoc [tP0, tP1, tP2, tP3] (walk_assoc [tP0, tP1, tP2, tP3, tP4] (walk_assoc [tP0, tP1, tP2, tP3, tP4, tP5] (walk_assoc [tP0, tP1, tP2, tP3, tP4, tP5, tP6] (walk_assoc [tP0, tP1, tP2, tP3, tP4, tP5, tP6, tR] (walk_assoc [tP0, tP1, tP2, tP3, tP4, tP5, tP6, tR, tP8] ?_)))))))))
  have gp : ∀ c ∈ [tP0, tP1, tP2, tP3, tP4, tP5, tP6], (∀ b ∈ loopsOf c, b ∈ loopsOf tBody) ∧ okCode Try.f4.ntmps c = true := fun c hc => tGood c (by
    simp only [List.mem_cons, List.not_mem_nil, or_false] at hc
    rcases hc with rfl | rfl | rfl | rfl | rfl | rfl | rfl <;> simp)
  have g8 := tGood tP8 (by simp)
  have g9 := tGood tP9 (by simp)
  show WalkL E0.P Try.f4.ntmps w F ([tP0, tP1, tP2, tP3, tP4, tP5, tP6] ++ [tR, tP8, tP9, .ret]) _ _
  rcases errRR_or a E S b S' with he | he
  · have hok : okR a E S ∧ okR b E S' := by unfold errRR at he; split at he; assumption; simp at he
    have na := hok.1.2.2.1
    have nb := hok.2.2.2.1
    unfold near at na nb
    have wa : IntKind.i64.wrap (a + 7) = a + 7 := i64_wrap (by omega) (by omega)
    have wb : IntKind.i64.wrap (b + 7) = b + 7 := i64_wrap (by omega) (by omega)
    have hc := way_cases ar a E S ar' b S' he
    have hsh := way_shift ar a E S ar' b S' he
    rw [he] at g1 g2
    generalize wayQ ar a E S ar' b S' = X at *
    generalize wayQ ar' b E S' ar a S = Y at *
    rcases hc with ⟨rfl, rfl⟩ | ⟨rfl, rfl⟩ | ⟨h1, h2, rfl⟩
    · refine walk_list (l := [tR, tP8, tP9, .ret]) mixed (lim_sound mixed pr2_ok) hlp hnd [tP0, tP1, tP2, tP3, tP4, tP5, tP6] gp (e := .nor) (S' := ?_) ?_ ?_
      rotate_left
      · simp (config := { maxSteps := 1000000 }) (disch := omega) only [push_cast, ↓reduceIte, Nat.reduceEqDiff, Nat.reduceAdd, Nat.reduceLT, Nat.reduceLeDiff, Nat.reduceBEq, Nat.reduceMul, Nat.reduceSub, Int.reduceToNat, Int.reduceEq, Int.reduceLT, Int.reduceLE, Int.reduceNeg, Int.reduceAdd, Int.reduceSub, Int.reduceMul, Try.f4, kr4, ty3, ty4, ty22, ty24, tb4, tP0, tP1, tP2, tP3, tP4, tP5, tP6, tB1, tB2, tB3, tB4, tB5, tB6, tBody, sA, sB, g1, g2, ne_eq, nOB, nBO]
        rfl
      refine walk_turned (ar := ar) (a := a) (s := SL true none S.length (ints S)) (ar' := ar') (b := b) (s' := SL true none S'.length (ints S')) rfl rfl rfl rfl (fun t h1 h2 => ?_) ?_
      · simp only [get]
        repeat rw [if_neg (by omega)]
      rw [wa, wb]
      rcases errRR_or (a + 7) E S (b + 7) S' with hz | hz
      · rw [hz, hsh hz] at g3
        refine walk_te (e := .nor) mixed (lim_sound mixed pr2_ok) hlp hnd g8.1 g8.2 (S' := ?_) ?_ ?_
        rotate_left
        · simp (config := { maxSteps := 1000000 }) (disch := omega) only [push_cast, ↓reduceIte, Nat.reduceEqDiff, Nat.reduceAdd, Nat.reduceLT, Nat.reduceLeDiff, Nat.reduceBEq, Nat.reduceMul, Nat.reduceSub, Int.reduceToNat, Int.reduceEq, Int.reduceLT, Int.reduceLE, Int.reduceNeg, Int.reduceAdd, Int.reduceSub, Int.reduceMul, Try.f4, kr4, ty3, ty4, ty22, ty24, tb4, tP8, tP9, tB1, tB2, tB3, tB4, tB5, tB6, tB7, tB8, tB9, tBody, sA, sB, g3]
          rfl
        show WalkL E0.P Try.f4.ntmps w F [tP9, .ret] _ _
        refine walk_te (e := .nor) mixed (lim_sound mixed pr2_ok) hlp hnd g9.1 g9.2 (S' := ?_) ?_ ?_
        rotate_left
        · simp (config := { maxSteps := 1000000 }) (disch := omega) only [push_cast, ↓reduceIte, Nat.reduceEqDiff, Nat.reduceAdd, Nat.reduceLT, Nat.reduceLeDiff, Nat.reduceBEq, Nat.reduceMul, Nat.reduceSub, Int.reduceToNat, Int.reduceEq, Int.reduceLT, Int.reduceLE, Int.reduceNeg, Int.reduceAdd, Int.reduceSub, Int.reduceMul, Try.f4, kr4, ty3, ty4, ty22, ty24, tb4, tP8, tP9, tB1, tB2, tB3, tB4, tB5, tB6, tB7, tB8, tB9, tBody, sA, sB, s2_Awake, ne_eq, nOB, nBO]
          rfl
        show WalkL E0.P Try.f4.ntmps w F [.ret] _ _
        exact walk_ret ⟨.inr rfl, by simp (config := { maxSteps := 1000000 }) (disch := omega) only [push_cast, ↓reduceIte, Nat.reduceEqDiff, Nat.reduceAdd, Nat.reduceLT, Nat.reduceLeDiff, Nat.reduceBEq, Nat.reduceMul, Nat.reduceSub, Int.reduceToNat, Int.reduceEq, Int.reduceLT, Int.reduceLE, Int.reduceNeg, Int.reduceAdd, Int.reduceSub, Int.reduceMul, Try.f4, kr4, ty3, ty4, ty22, ty24, tb4, retT, St.add]⟩
      · rw [hz] at g3
        refine walk_te (e := .nor) mixed (lim_sound mixed pr2_ok) hlp hnd g8.1 g8.2 (S' := ?_) ?_ ?_
        rotate_left
        · simp (config := { maxSteps := 1000000 }) (disch := omega) only [push_cast, ↓reduceIte, Nat.reduceEqDiff, Nat.reduceAdd, Nat.reduceLT, Nat.reduceLeDiff, Nat.reduceBEq, Nat.reduceMul, Nat.reduceSub, Int.reduceToNat, Int.reduceEq, Int.reduceLT, Int.reduceLE, Int.reduceNeg, Int.reduceAdd, Int.reduceSub, Int.reduceMul, Try.f4, kr4, ty3, ty4, ty22, ty24, tb4, tP8, tP9, tB1, tB2, tB3, tB4, tB5, tB6, tB7, tB8, tB9, tBody, sA, sB, g3]
          rfl
        show WalkL E0.P Try.f4.ntmps w F [tP9, .ret] _ _
        refine walk_te (e := .nor) mixed (lim_sound mixed pr2_ok) hlp hnd g9.1 g9.2 (S' := ?_) ?_ ?_
        rotate_left
        · simp (config := { maxSteps := 1000000 }) (disch := omega) only [push_cast, ↓reduceIte, Nat.reduceEqDiff, Nat.reduceAdd, Nat.reduceLT, Nat.reduceLeDiff, Nat.reduceBEq, Nat.reduceMul, Nat.reduceSub, Int.reduceToNat, Int.reduceEq, Int.reduceLT, Int.reduceLE, Int.reduceNeg, Int.reduceAdd, Int.reduceSub, Int.reduceMul, Try.f4, kr4, ty3, ty4, ty22, ty24, tb4, tP8, tP9, tB1, tB2, tB3, tB4, tB5, tB6, tB7, tB8, tB9, tBody, sA, sB, s2_Awake, ne_eq, nOB, nBO]
          rfl
        show WalkL E0.P Try.f4.ntmps w F [.ret] _ _
        exact walk_ret ⟨.inr rfl, by simp (config := { maxSteps := 1000000 }) (disch := omega) only [push_cast, ↓reduceIte, Nat.reduceEqDiff, Nat.reduceAdd, Nat.reduceLT, Nat.reduceLeDiff, Nat.reduceBEq, Nat.reduceMul, Nat.reduceSub, Int.reduceToNat, Int.reduceEq, Int.reduceLT, Int.reduceLE, Int.reduceNeg, Int.reduceAdd, Int.reduceSub, Int.reduceMul, Try.f4, kr4, ty3, ty4, ty22, ty24, tb4, retT, St.add]⟩
    · refine walk_list (l := [tR, tP8, tP9, .ret]) mixed (lim_sound mixed pr2_ok) hlp hnd [tP0, tP1, tP2, tP3, tP4, tP5, tP6] gp (e := .nor) (S' := ?_) ?_ ?_
      rotate_left
      · simp (config := { maxSteps := 1000000 }) (disch := omega) only [push_cast, ↓reduceIte, Nat.reduceEqDiff, Nat.reduceAdd, Nat.reduceLT, Nat.reduceLeDiff, Nat.reduceBEq, Nat.reduceMul, Nat.reduceSub, Int.reduceToNat, Int.reduceEq, Int.reduceLT, Int.reduceLE, Int.reduceNeg, Int.reduceAdd, Int.reduceSub, Int.reduceMul, Try.f4, kr4, ty3, ty4, ty22, ty24, tb4, tP0, tP1, tP2, tP3, tP4, tP5, tP6, tB1, tB2, tB3, tB4, tB5, tB6, tBody, sA, sB, g1, g2, ne_eq, nOB, nBO]
        rfl
      refine walk_turned (ar := ar) (a := a) (s := SL true none S.length (ints S)) (ar' := ar') (b := b) (s' := SL true none S'.length (ints S')) rfl rfl rfl rfl (fun t h1 h2 => ?_) ?_
      · simp only [get]
        repeat rw [if_neg (by omega)]
      rw [wa, wb]
      rcases errRR_or (a + 7) E S (b + 7) S' with hz | hz
      · rw [hz, hsh hz] at g3
        refine walk_te (e := .nor) mixed (lim_sound mixed pr2_ok) hlp hnd g8.1 g8.2 (S' := ?_) ?_ ?_
        rotate_left
        · simp (config := { maxSteps := 1000000 }) (disch := omega) only [push_cast, ↓reduceIte, Nat.reduceEqDiff, Nat.reduceAdd, Nat.reduceLT, Nat.reduceLeDiff, Nat.reduceBEq, Nat.reduceMul, Nat.reduceSub, Int.reduceToNat, Int.reduceEq, Int.reduceLT, Int.reduceLE, Int.reduceNeg, Int.reduceAdd, Int.reduceSub, Int.reduceMul, Try.f4, kr4, ty3, ty4, ty22, ty24, tb4, tP8, tP9, tB1, tB2, tB3, tB4, tB5, tB6, tB7, tB8, tB9, tBody, sA, sB, g3]
          rfl
        show WalkL E0.P Try.f4.ntmps w F [tP9, .ret] _ _
        refine walk_te (e := .nor) mixed (lim_sound mixed pr2_ok) hlp hnd g9.1 g9.2 (S' := ?_) ?_ ?_
        rotate_left
        · simp (config := { maxSteps := 1000000 }) (disch := omega) only [push_cast, ↓reduceIte, Nat.reduceEqDiff, Nat.reduceAdd, Nat.reduceLT, Nat.reduceLeDiff, Nat.reduceBEq, Nat.reduceMul, Nat.reduceSub, Int.reduceToNat, Int.reduceEq, Int.reduceLT, Int.reduceLE, Int.reduceNeg, Int.reduceAdd, Int.reduceSub, Int.reduceMul, Try.f4, kr4, ty3, ty4, ty22, ty24, tb4, tP8, tP9, tB1, tB2, tB3, tB4, tB5, tB6, tB7, tB8, tB9, tBody, sA, sB, s2_Awake, ne_eq, nOB, nBO]
          rfl
        show WalkL E0.P Try.f4.ntmps w F [.ret] _ _
        exact walk_ret ⟨.inr rfl, by simp (config := { maxSteps := 1000000 }) (disch := omega) only [push_cast, ↓reduceIte, Nat.reduceEqDiff, Nat.reduceAdd, Nat.reduceLT, Nat.reduceLeDiff, Nat.reduceBEq, Nat.reduceMul, Nat.reduceSub, Int.reduceToNat, Int.reduceEq, Int.reduceLT, Int.reduceLE, Int.reduceNeg, Int.reduceAdd, Int.reduceSub, Int.reduceMul, Try.f4, kr4, ty3, ty4, ty22, ty24, tb4, retT, St.add]⟩
      · rw [hz] at g3
        refine walk_te (e := .nor) mixed (lim_sound mixed pr2_ok) hlp hnd g8.1 g8.2 (S' := ?_) ?_ ?_
        rotate_left
        · simp (config := { maxSteps := 1000000 }) (disch := omega) only [push_cast, ↓reduceIte, Nat.reduceEqDiff, Nat.reduceAdd, Nat.reduceLT, Nat.reduceLeDiff, Nat.reduceBEq, Nat.reduceMul, Nat.reduceSub, Int.reduceToNat, Int.reduceEq, Int.reduceLT, Int.reduceLE, Int.reduceNeg, Int.reduceAdd, Int.reduceSub, Int.reduceMul, Try.f4, kr4, ty3, ty4, ty22, ty24, tb4, tP8, tP9, tB1, tB2, tB3, tB4, tB5, tB6, tB7, tB8, tB9, tBody, sA, sB, g3]
          rfl
        show WalkL E0.P Try.f4.ntmps w F [tP9, .ret] _ _
        refine walk_te (e := .nor) mixed (lim_sound mixed pr2_ok) hlp hnd g9.1 g9.2 (S' := ?_) ?_ ?_
        rotate_left
        · simp (config := { maxSteps := 1000000 }) (disch := omega) only [push_cast, ↓reduceIte, Nat.reduceEqDiff, Nat.reduceAdd, Nat.reduceLT, Nat.reduceLeDiff, Nat.reduceBEq, Nat.reduceMul, Nat.reduceSub, Int.reduceToNat, Int.reduceEq, Int.reduceLT, Int.reduceLE, Int.reduceNeg, Int.reduceAdd, Int.reduceSub, Int.reduceMul, Try.f4, kr4, ty3, ty4, ty22, ty24, tb4, tP8, tP9, tB1, tB2, tB3, tB4, tB5, tB6, tB7, tB8, tB9, tBody, sA, sB, s2_Awake, ne_eq, nOB, nBO]
          rfl
        show WalkL E0.P Try.f4.ntmps w F [.ret] _ _
        exact walk_ret ⟨.inr rfl, by simp (config := { maxSteps := 1000000 }) (disch := omega) only [push_cast, ↓reduceIte, Nat.reduceEqDiff, Nat.reduceAdd, Nat.reduceLT, Nat.reduceLeDiff, Nat.reduceBEq, Nat.reduceMul, Nat.reduceSub, Int.reduceToNat, Int.reduceEq, Int.reduceLT, Int.reduceLE, Int.reduceNeg, Int.reduceAdd, Int.reduceSub, Int.reduceMul, Try.f4, kr4, ty3, ty4, ty22, ty24, tb4, retT, St.add]⟩
    · refine walk_list (l := [tR, tP8, tP9, .ret]) mixed (lim_sound mixed pr2_ok) hlp hnd [tP0, tP1, tP2, tP3, tP4, tP5, tP6] gp (e := .nor) (S' := ?_) ?_ ?_
      rotate_left
      · simp (config := { maxSteps := 1000000 }) (disch := omega) only [push_cast, ↓reduceIte, Nat.reduceEqDiff, Nat.reduceAdd, Nat.reduceLT, Nat.reduceLeDiff, Nat.reduceBEq, Nat.reduceMul, Nat.reduceSub, Int.reduceToNat, Int.reduceEq, Int.reduceLT, Int.reduceLE, Int.reduceNeg, Int.reduceAdd, Int.reduceSub, Int.reduceMul, Try.f4, kr4, ty3, ty4, ty22, ty24, tb4, tP0, tP1, tP2, tP3, tP4, tP5, tP6, tB1, tB2, tB3, tB4, tB5, tB6, tBody, sA, sB, g1, g2, ne_eq, h1, h2]
        rfl
      refine walk_turned (ar := ar) (a := a) (s := SL true none S.length (ints S)) (ar' := ar') (b := b) (s' := SL true none S'.length (ints S')) rfl rfl rfl rfl (fun t h1 h2 => ?_) ?_
      · simp only [get]
        repeat rw [if_neg (by omega)]
      rw [wa, wb]
      rcases errRR_or (a + 7) E S (b + 7) S' with hz | hz
      · rw [hz, hsh hz] at g3
        refine walk_te (e := .nor) mixed (lim_sound mixed pr2_ok) hlp hnd g8.1 g8.2 (S' := ?_) ?_ ?_
        rotate_left
        · simp (config := { maxSteps := 1000000 }) (disch := omega) only [push_cast, ↓reduceIte, Nat.reduceEqDiff, Nat.reduceAdd, Nat.reduceLT, Nat.reduceLeDiff, Nat.reduceBEq, Nat.reduceMul, Nat.reduceSub, Int.reduceToNat, Int.reduceEq, Int.reduceLT, Int.reduceLE, Int.reduceNeg, Int.reduceAdd, Int.reduceSub, Int.reduceMul, Try.f4, kr4, ty3, ty4, ty22, ty24, tb4, tP8, tP9, tB1, tB2, tB3, tB4, tB5, tB6, tB7, tB8, tB9, tBody, sA, sB, g3]
          rfl
        show WalkL E0.P Try.f4.ntmps w F [tP9, .ret] _ _
        refine walk_te (e := .nor) mixed (lim_sound mixed pr2_ok) hlp hnd g9.1 g9.2 (S' := ?_) ?_ ?_
        rotate_left
        · simp (config := { maxSteps := 1000000 }) (disch := omega) only [push_cast, ↓reduceIte, Nat.reduceEqDiff, Nat.reduceAdd, Nat.reduceLT, Nat.reduceLeDiff, Nat.reduceBEq, Nat.reduceMul, Nat.reduceSub, Int.reduceToNat, Int.reduceEq, Int.reduceLT, Int.reduceLE, Int.reduceNeg, Int.reduceAdd, Int.reduceSub, Int.reduceMul, Try.f4, kr4, ty3, ty4, ty22, ty24, tb4, tP8, tP9, tB1, tB2, tB3, tB4, tB5, tB6, tB7, tB8, tB9, tBody, sA, sB, s2_Awake, ne_eq, h1, h2]
          rfl
        show WalkL E0.P Try.f4.ntmps w F [.ret] _ _
        exact walk_ret ⟨.inr rfl, by simp (config := { maxSteps := 1000000 }) (disch := omega) only [push_cast, ↓reduceIte, Nat.reduceEqDiff, Nat.reduceAdd, Nat.reduceLT, Nat.reduceLeDiff, Nat.reduceBEq, Nat.reduceMul, Nat.reduceSub, Int.reduceToNat, Int.reduceEq, Int.reduceLT, Int.reduceLE, Int.reduceNeg, Int.reduceAdd, Int.reduceSub, Int.reduceMul, Try.f4, kr4, ty3, ty4, ty22, ty24, tb4, retT, St.add]⟩
      · rw [hz] at g3
        refine walk_te (e := .nor) mixed (lim_sound mixed pr2_ok) hlp hnd g8.1 g8.2 (S' := ?_) ?_ ?_
        rotate_left
        · simp (config := { maxSteps := 1000000 }) (disch := omega) only [push_cast, ↓reduceIte, Nat.reduceEqDiff, Nat.reduceAdd, Nat.reduceLT, Nat.reduceLeDiff, Nat.reduceBEq, Nat.reduceMul, Nat.reduceSub, Int.reduceToNat, Int.reduceEq, Int.reduceLT, Int.reduceLE, Int.reduceNeg, Int.reduceAdd, Int.reduceSub, Int.reduceMul, Try.f4, kr4, ty3, ty4, ty22, ty24, tb4, tP8, tP9, tB1, tB2, tB3, tB4, tB5, tB6, tB7, tB8, tB9, tBody, sA, sB, g3]
          rfl
        show WalkL E0.P Try.f4.ntmps w F [tP9, .ret] _ _
        refine walk_te (e := .nor) mixed (lim_sound mixed pr2_ok) hlp hnd g9.1 g9.2 (S' := ?_) ?_ ?_
        rotate_left
        · simp (config := { maxSteps := 1000000 }) (disch := omega) only [push_cast, ↓reduceIte, Nat.reduceEqDiff, Nat.reduceAdd, Nat.reduceLT, Nat.reduceLeDiff, Nat.reduceBEq, Nat.reduceMul, Nat.reduceSub, Int.reduceToNat, Int.reduceEq, Int.reduceLT, Int.reduceLE, Int.reduceNeg, Int.reduceAdd, Int.reduceSub, Int.reduceMul, Try.f4, kr4, ty3, ty4, ty22, ty24, tb4, tP8, tP9, tB1, tB2, tB3, tB4, tB5, tB6, tB7, tB8, tB9, tBody, sA, sB, s2_Awake, ne_eq, h1, h2]
          rfl
        show WalkL E0.P Try.f4.ntmps w F [.ret] _ _
        exact walk_ret ⟨.inr rfl, by simp (config := { maxSteps := 1000000 }) (disch := omega) only [push_cast, ↓reduceIte, Nat.reduceEqDiff, Nat.reduceAdd, Nat.reduceLT, Nat.reduceLeDiff, Nat.reduceBEq, Nat.reduceMul, Nat.reduceSub, Int.reduceToNat, Int.reduceEq, Int.reduceLT, Int.reduceLE, Int.reduceNeg, Int.reduceAdd, Int.reduceSub, Int.reduceMul, Try.f4, kr4, ty3, ty4, ty22, ty24, tb4, retT, St.add]⟩
  · rw [he] at g1 g2
    refine walk_list (l := [tR, tP8, tP9, .ret]) mixed (lim_sound mixed pr2_ok) hlp hnd [tP0, tP1, tP2, tP3, tP4, tP5, tP6] gp (e := .ret) (S' := ?_) ?_ ?_
    rotate_left
    · simp (config := { maxSteps := 1000000 }) (disch := omega) only [push_cast, ↓reduceIte, Nat.reduceEqDiff, Nat.reduceAdd, Nat.reduceLT, Nat.reduceLeDiff, Nat.reduceBEq, Nat.reduceMul, Nat.reduceSub, Int.reduceToNat, Int.reduceEq, Int.reduceLT, Int.reduceLE, Int.reduceNeg, Int.reduceAdd, Int.reduceSub, Int.reduceMul, Try.f4, kr4, ty3, ty4, ty22, ty24, tb4, tP0, tP1, tP2, tP3, tP4, tP5, tP6, tB1, tB2, tB3, tB4, tB5, tB6, tBody, sA, sB, g1, g2, s2_Awake, ne_eq]
      rfl
    refine ⟨.inr rfl, ?_⟩
    simp (config := { maxSteps := 1000000 }) (disch := omega) only [push_cast, ↓reduceIte, Nat.reduceEqDiff, Nat.reduceAdd, Nat.reduceLT, Nat.reduceLeDiff, Nat.reduceBEq, Nat.reduceMul, Nat.reduceSub, Int.reduceToNat, Int.reduceEq, Int.reduceLT, Int.reduceLE, Int.reduceNeg, Int.reduceAdd, Int.reduceSub, Int.reduceMul, Try.f4, kr4, ty3, ty4, ty22, ty24, tb4, retT, St.add]
end
/-- The layer of the law itself. -/
def Sp3 (f : FuncId) (xs : List T) (r : R) : Prop := CallsR E0.P f xs r ∧ r = (B true, [])
noncomputable def pr3 : FuncId → List T → Option R := relP Sp3 fun _ _ => none
theorem pr3_ok : CallOK E0.P pr3 := relP_ok (fun f xs r h => h.1) fun f ts r h => by simp at h
theorem OverlapTurned_true (x : List Int) (y z : Int × Int × List Int) (hx : x.length * 8 ≤ 140737488351232 ∧ ∀ n ∈ x, -9223372036854775808 ≤ n ∧ n ≤ 9223372036854775807)
    (hy : (-9223372036854775808 ≤ y.1 ∧ y.1 ≤ 9223372036854775807) ∧ (-9223372036854775808 ≤ y.2.1 ∧ y.2.1 ≤ 9223372036854775807) ∧ (y.2.2.length * 8 ≤ 140737488351232 ∧ ∀ n ∈ y.2.2, -9223372036854775808 ≤ n ∧ n ≤ 9223372036854775807))
    (hz : (-9223372036854775808 ≤ z.1 ∧ z.1 ≤ 9223372036854775807) ∧ (-9223372036854775808 ≤ z.2.1 ∧ z.2.1 ≤ 9223372036854775807) ∧ (z.2.2.length * 8 ≤ 140737488351232 ∧ ∀ n ∈ z.2.2, -9223372036854775808 ≤ n ∧ n ≤ 9223372036854775807)) :
    (lim E0 pr3).call 4 [.c (.s none x.length (ints x)), .agg [I y.1, I y.2.1, .c (.s none y.2.2.length (ints y.2.2))], .agg [I z.1, I z.2.1, .c (.s none z.2.2.length (ints z.2.2))]] = some (B true, []) :=
  lim_pr (relP_of ⟨turned_R y.1 y.2.1 x y.2.2 z.1 z.2.1 z.2.2 (by have := hx.1; omega) (by have := hy.2.2.1; omega) (by have := hz.2.2.1; omega), rfl⟩ fun r' h => h.2)
end Go.Proofs.Ytancjhajhdhfbaa.Tev
