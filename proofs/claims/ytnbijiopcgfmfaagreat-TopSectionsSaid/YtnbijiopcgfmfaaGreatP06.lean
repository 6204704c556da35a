/- Part 6: TevEval, TevSl, TevRow. -/
import Derived.Test.YtnbijiopcgfmfaaGreatP01
import Derived.Test.YtnbijiopcgfmfaaGreatP05
import Derived.IntWalk
import Derived.Laws.StructEq
/- The evaluator as a machine over a list of what is still to be done: the equations by which it is run on code with letters in it. -/
namespace Go.Proofs.YtnbijiopcgfmfaaGreat.Tev
open Go Go.RowKit
set_option linter.unusedSectionVars false
set_option linter.unusedVariables false
set_option linter.unusedSimpArgs false

inductive It where
  | code (c : Code)
  | ops (dr : Bool) (all : Array Oper) (l : List Oper)
  | blk (id : Nat)
  | chk (l : List (Nat × Nat))

section
variable (E : Env) (O : Ora) (f : FuncId)
def exec : Ex → List It → St → Option (Ex × St)
  | e, [], S => some (e, S)
  | .nor, .code c :: k, S => match te E O f c S with | none => none | some (e, S) => exec e k S
  | .nor, .ops dr all l :: k, S => match tops E O.call dr all l S with | none => none | some S => exec .nor k S
  | .nor, .blk _ :: k, S => exec .nor k S
  | .nor, .chk l :: k, S => if chk l S = true then exec .nor k S else none
  | .exit id, .blk i :: k, S => if id = i then exec .nor k S else exec (.exit id) k S
  | e, _ :: k, S => exec e k S
/-- The value of an operation and what is done with it. -/
def put1 (r : Option (T × List Ob × List Nat)) (d : Option Nat) (dr : Bool) (all : Array Oper) (l : List Oper) (k : List It) (S : St) : Option (Ex × St) :=
  match r with
  | none => none
  | some (x, nw, fz) => if frOk dr fz = true then exec E O f .nor (.ops dr all l :: k) ((S.add fz nw).putO d x) else none
def putW (r : Option (List (Nat × Ob))) (d : Option Nat) (dr : Bool) (all : Array Oper) (l : List Oper) (k : List It) (S : St) : Option (Ex × St) :=
  match r with
  | none => none
  | some os => exec E O f .nor (.ops dr all l :: k) (St.putO { S with o := os } d .und)
def guard1 (x : T) (g : Nat) (want : Bool) (o : Oper) (dr : Bool) (all : Array Oper) (l : List Oper) (k : List It) (S : St) : Option (Ex × St) :=
  match x with
  | .c (.v (.bool b)) => if b = true
      then (if want = true then exec E O f .nor (.ops dr all ({ o with guard := none } :: l) :: k) (S.put g (B true)) else exec E O f .nor (.ops dr all l :: k) ((S.put g (B true)).putO o.dst .und))
      else (if want = true then exec E O f .nor (.ops dr all l :: k) ((S.put g (B false)).putO o.dst .und) else exec E O f .nor (.ops dr all ({ o with guard := none } :: l) :: k) (S.put g (B false)))
  | .und => exec E O f .nor (.ops dr all l :: k) (S.putO o.dst .und)
  | _ => none
def cond1 (x : T) (c : Operand) (a b : Code) (k : List It) (S : St) : Option (Ex × St) :=
  match x with
  | .c (.v (.bool q)) =>
    match c with
    | .tmp t => if q = true then exec E O f .nor (.code a :: k) (S.put t (B true)) else exec E O f .nor (.code b :: k) (S.put t (B false))
    | _ => if q = true then exec E O f .nor (.code a :: k) S else exec E O f .nor (.code b :: k) S
  | _ => none
def loop1 (r : Option (Ex × St)) (k : List It) : Option (Ex × St) :=
  match r with
  | none => none
  | some (e, S) => exec E O f e k S

variable {E O f}
theorem exec_ret (x : It) (k : List It) (S : St) : exec E O f .ret (x :: k) S = exec E O f .ret k S := by cases x <;> simp [exec]
theorem exec_ret_nil (S : St) : exec E O f .ret [] S = some (.ret, S) := rfl
theorem exec_nil (e : Ex) (S : St) : exec E O f e [] S = some (e, S) := by cases e <;> rfl
theorem ex_skip (k : List It) (S : St) : exec E O f .nor (.code .skip :: k) S = exec E O f .nor k S := by simp [exec, te]
theorem ex_ret (k : List It) (S : St) : exec E O f .nor (.code .ret :: k) S = exec E O f .ret k S := by simp [exec, te]
theorem ex_exit (id : Nat) (k : List It) (S : St) : exec E O f .nor (.code (.exit id) :: k) S = exec E O f (.exit id) k S := by simp [exec, te]
theorem ex_chk (l : List (Nat × Nat)) (k : List It) (S : St) : exec E O f .nor (.chk l :: k) S = if chk l S = true then exec E O f .nor k S else none := by simp [exec]
theorem ex_chk0 (k : List It) (S : St) : exec E O f .nor (.chk [] :: k) S = exec E O f .nor k S := by simp [exec, chk]
theorem ex_pass_chk (id : Nat) (l : List (Nat × Nat)) (k : List It) (S : St) : exec E O f (.exit id) (.chk l :: k) S = exec E O f (.exit id) k S := by simp [exec]
theorem chk_one (p q : Nat) (l : List (Nat × Nat)) (S : St) : chk ((p, q) :: l) S = (ptNe S (get S.t p) (get S.t q) && chk l S) := rfl
theorem chk_nil (S : St) : chk [] S = true := rfl
theorem ptNe_pt (S : St) (a b x y : Nat) : ptNe S (.pt a x) (.pt b y) = (decide (a ≠ b) && boxed S a && boxed S b) := by
  show (a != b && boxed S a && boxed S b) = _
  by_cases h : a = b
  · subst h; simp
  · have : (a != b) = true := by simpa using h
    rw [this]; simp [h]
theorem boxed_box {S : St} {o : Nat} {l : List T} (h : obj S.o o = some (.box l)) : boxed S o = true := by unfold boxed; rw [h]
theorem ex_region (id : Nat) (ops : Array Oper) (dr : Bool) (k : List It) (S : St) : exec E O f .nor (.code (.region id ops dr) :: k) S = exec E O f .nor (.ops dr ops ops.toList :: .chk (E.nd f id) :: k) (frzA S (E.fz f id)) := by
  simp only [exec, te]
  cases tops E O.call dr ops ops.toList (frzA S (E.fz f id)) with
  | none => rfl
  | some S1 =>
    simp only [Option.bind_some]
    by_cases h : chk (E.nd f id) S1 = true <;> simp [h, exec]
theorem ex_seq (a b : Code) (k : List It) (S : St) : exec E O f .nor (.code (.seq a b) :: k) S = exec E O f .nor (.code a :: .code b :: k) S := by
  simp only [exec, te]
  cases h : te E O f a S with
  | none => rfl
  | some r => obtain ⟨e, S'⟩ := r; cases e <;> simp [exec]
theorem ex_cond (c : Operand) (a b : Code) (k : List It) (S : St) : exec E O f .nor (.code (.cond c a b) :: k) S = cond1 E O f (S.ev c) c a b k S := by
  simp only [exec, te, cond1]
  cases S.ev c with
  | c x =>
    cases x with
    | v v =>
      cases v with
      | bool q => cases c <;> cases q <;> rfl
      | _ => rfl
    | s => rfl
  | _ => rfl
theorem ex_block (id : Nat) (b : Code) (k : List It) (S : St) : exec E O f .nor (.code (.block id b) :: k) S = exec E O f .nor (.code b :: .blk id :: k) S := by
  simp only [exec, te]
  cases h : te E O f b S with
  | none => rfl
  | some r =>
    obtain ⟨e, S'⟩ := r
    cases e with
    | nor => simp [exec]
    | ret => simp [exec]
    | exit i => by_cases hi : i = id <;> simp [exec, hi]
theorem ex_loop (b : Code) (k : List It) (S : St) : exec E O f .nor (.code (.loop b) :: k) S = loop1 E O f (O.loop f (firstId b) S) k := by
  simp only [exec, te, loop1]
theorem loop1_none (k : List It) : loop1 E O f none k = none := rfl
theorem loop1_some (e : Ex) (S : St) (k : List It) : loop1 E O f (some (e, S)) k = exec E O f e k S := rfl
theorem ex_blk (id : Nat) (k : List It) (S : St) : exec E O f .nor (.blk id :: k) S = exec E O f .nor k S := by simp [exec]
theorem ex_leave (id i : Nat) (k : List It) (S : St) : exec E O f (.exit id) (.blk i :: k) S = if id = i then exec E O f .nor k S else exec E O f (.exit id) k S := by simp [exec]
theorem ex_pass_code (id : Nat) (c : Code) (k : List It) (S : St) : exec E O f (.exit id) (.code c :: k) S = exec E O f (.exit id) k S := by simp [exec]
theorem ex_pass_ops (id : Nat) (dr : Bool) (all : Array Oper) (l : List Oper) (k : List It) (S : St) : exec E O f (.exit id) (.ops dr all l :: k) S = exec E O f (.exit id) k S := by simp [exec]
theorem ex_ops_nil (dr : Bool) (all : Array Oper) (k : List It) (S : St) : exec E O f .nor (.ops dr all [] :: k) S = exec E O f .nor k S := by simp [exec, tops]
theorem ex_op (d : Option Nat) (op : Op) (ty : TypeId) (pos : String) (af : Array Edge) (dr : Bool) (all : Array Oper) (l : List Oper) (k : List It) (S : St) :
    exec E O f .nor (.ops dr all (⟨d, op, ty, pos, af, none⟩ :: l) :: k) S = if isW op = true then putW E O f (opW E S ⟨d, op, ty, pos, af, none⟩) d dr all l k S else put1 E O f (opN E O.call S ⟨d, op, ty, pos, af, none⟩) d dr all l k S := by
  simp only [exec, tops, opG, opA]
  cases hw : isW op with
  | true =>
    simp only [putW, cond_true, if_true]
    cases opW E S ⟨d, op, ty, pos, af, none⟩ with
    | none => rfl
    | some os => simp [exec]
  | false =>
    simp only [put1, cond_false, Bool.false_eq_true, if_false]
    cases opN E O.call S ⟨d, op, ty, pos, af, none⟩ with
    | none => rfl
    | some r =>
      obtain ⟨x, nw, fz⟩ := r
      cases hf : frOk dr fz <;> simp [hf, exec]
theorem put1_none (d : Option Nat) (dr : Bool) (all : Array Oper) (l : List Oper) (k : List It) (S : St) : put1 E O f none d dr all l k S = none := rfl
theorem put1_val (x : T) (d : Nat) (dr : Bool) (all : Array Oper) (l : List Oper) (k : List It) (S : St) :
    put1 E O f (some (x, [], [])) (some d) dr all l k S = exec E O f .nor (.ops dr all l :: k) ⟨(d, x) :: S.t, S.o, S.n⟩ := by
  simp [put1, St.add, addO, frzGs, St.putO, St.put, frOk]
theorem put1_new (x : T) (o : Ob) (os : List Ob) (d : Nat) (dr : Bool) (all : Array Oper) (l : List Oper) (k : List It) (S : St) :
    put1 E O f (some (x, o :: os, [])) (some d) dr all l k S = exec E O f .nor (.ops dr all l :: k) ⟨(d, x) :: S.t, addO S.n (o :: os) ++ S.o, S.n + (o :: os).length⟩ := by
  simp [put1, St.add, frzGs, St.putO, St.put, frOk]
theorem put1_frz (x : T) (os : List Ob) (g : Nat) (gs : List Nat) (d : Nat) (all : Array Oper) (l : List Oper) (k : List It) (S : St) :
    put1 E O f (some (x, os, g :: gs)) (some d) false all l k S = exec E O f .nor (.ops false all l :: k) ⟨(d, x) :: S.t, addO S.n os ++ frzGs (g :: gs) S.o, S.n + os.length⟩ := by
  simp [put1, St.add, St.putO, St.put, frOk]
theorem put1_drop (x : T) (os : List Ob) (dr : Bool) (all : Array Oper) (l : List Oper) (k : List It) (S : St) :
    put1 E O f (some (x, os, [])) none dr all l k S = exec E O f .nor (.ops dr all l :: k) ⟨S.t, addO S.n os ++ S.o, S.n + os.length⟩ := by
  simp [put1, St.add, frzGs, St.putO, frOk]
theorem putW_none (d : Option Nat) (dr : Bool) (all : Array Oper) (l : List Oper) (k : List It) (S : St) : putW E O f none d dr all l k S = none := rfl
theorem putW_some (os : List (Nat × Ob)) (dr : Bool) (all : Array Oper) (l : List Oper) (k : List It) (S : St) :
    putW E O f (some os) none dr all l k S = exec E O f .nor (.ops dr all l :: k) ⟨S.t, os, S.n⟩ := rfl
theorem putW_dst (os : List (Nat × Ob)) (d : Nat) (dr : Bool) (all : Array Oper) (l : List Oper) (k : List It) (S : St) :
    putW E O f (some os) (some d) dr all l k S = exec E O f .nor (.ops dr all l :: k) ⟨(d, .und) :: S.t, os, S.n⟩ := rfl
theorem opA_guard (cl : FuncId → List T → Option R) (dr : Bool) (S : St) (d : Option Nat) (op : Op) (ty : TypeId) (pos : String) (af : Array Edge) (g h : Option (Nat × Bool)) :
    opA E cl dr S ⟨d, op, ty, pos, af, g⟩ = opA E cl dr S ⟨d, op, ty, pos, af, h⟩ := by cases op <;> rfl
theorem ex_guard (d : Option Nat) (op : Op) (ty : TypeId) (pos : String) (af : Array Edge) (g : Nat) (want : Bool) (dr : Bool) (all : Array Oper) (l : List Oper) (k : List It) (S : St) :
    exec E O f .nor (.ops dr all (⟨d, op, ty, pos, af, some (g, want)⟩ :: l) :: k) S =
      match gtmp all g with | none => none | some t => guard1 E O f (get S.t t) t want ⟨d, op, ty, pos, af, some (g, want)⟩ dr all l k S := by
  simp only [exec, tops, opG]
  cases gtmp all g with
  | none => rfl
  | some t =>
    simp only [guard1]
    cases get S.t t with
    | c x =>
      cases x with
      | v v =>
        cases v with
        | bool b => cases b <;> cases want <;> simp [exec, tops, opG, opA_guard _ _ _ _ _ _ _ _ (some (g, _)) none]
        | _ => rfl
      | s => rfl
    | und => simp [exec]
    | _ => rfl
theorem guard1_und (g : Nat) (want : Bool) (d : Option Nat) (op : Op) (ty : TypeId) (pos : String) (af : Array Edge) (q : Option (Nat × Bool)) (dr : Bool) (all : Array Oper) (l : List Oper) (k : List It) (S : St) :
    guard1 E O f .und g want ⟨d, op, ty, pos, af, q⟩ dr all l k S = exec E O f .nor (.ops dr all l :: k) (S.putO d .und) := rfl
theorem guard1_bool (b : Bool) (g : Nat) (want : Bool) (d : Option Nat) (op : Op) (ty : TypeId) (pos : String) (af : Array Edge) (q : Option (Nat × Bool)) (dr : Bool) (all : Array Oper) (l : List Oper) (k : List It) (S : St) :
    guard1 E O f (.c (.v (.bool b))) g want ⟨d, op, ty, pos, af, q⟩ dr all l k S = if b = true
      then (if want = true then exec E O f .nor (.ops dr all (⟨d, op, ty, pos, af, none⟩ :: l) :: k) (S.put g (B true)) else exec E O f .nor (.ops dr all l :: k) ((S.put g (B true)).putO d .und))
      else (if want = true then exec E O f .nor (.ops dr all l :: k) ((S.put g (B false)).putO d .und) else exec E O f .nor (.ops dr all (⟨d, op, ty, pos, af, none⟩ :: l) :: k) (S.put g (B false))) := rfl
theorem cond1_tmp (q : Bool) (t : Nat) (a b : Code) (k : List It) (S : St) :
    cond1 E O f (.c (.v (.bool q))) (.tmp t) a b k S = if q = true then exec E O f .nor (.code a :: k) (S.put t (B true)) else exec E O f .nor (.code b :: k) (S.put t (B false)) := rfl
theorem cond1_const (q : Bool) (x : Value) (a b : Code) (k : List It) (S : St) :
    cond1 E O f (.c (.v (.bool q))) (.const x) a b k S = if q = true then exec E O f .nor (.code a :: k) S else exec E O f .nor (.code b :: k) S := rfl
theorem put1_ite (p : Prop) [Decidable p] (a b : Option (T × List Ob × List Nat)) (d : Option Nat) (dr : Bool) (all : Array Oper) (l : List Oper) (k : List It) (S : St) :
    put1 E O f (if p then a else b) d dr all l k S = if p then put1 E O f a d dr all l k S else put1 E O f b d dr all l k S := by split <;> rfl
theorem put1_cond (p : Bool) (a b : Option (T × List Ob × List Nat)) (d : Option Nat) (dr : Bool) (all : Array Oper) (l : List Oper) (k : List It) (S : St) :
    put1 E O f (bif p then a else b) d dr all l k S = bif p then put1 E O f a d dr all l k S else put1 E O f b d dr all l k S := by cases p <;> rfl
theorem putW_ite (p : Prop) [Decidable p] (a b : Option (List (Nat × Ob))) (d : Option Nat) (dr : Bool) (all : Array Oper) (l : List Oper) (k : List It) (S : St) :
    putW E O f (if p then a else b) d dr all l k S = if p then putW E O f a d dr all l k S else putW E O f b d dr all l k S := by split <;> rfl

/-- The end of a function. -/
def fin (P : Program) (rs : List ResultVar) (ts : List TypeId) (r : Option (Ex × St)) : Option R :=
  match r with
  | some (.nor, S) | some (.ret, S) => retT P rs ts S
  | _ => none
theorem fin_none (P : Program) (rs : List ResultVar) (ts : List TypeId) : fin P rs ts none = none := rfl
theorem fin_ret (P : Program) (rs : List ResultVar) (ts : List TypeId) (S : St) : fin P rs ts (some (.ret, S)) = retT P rs ts S := rfl
theorem fin_nor (P : Program) (rs : List ResultVar) (ts : List TypeId) (S : St) : fin P rs ts (some (.nor, S)) = retT P rs ts S := rfl
theorem fin_ite (P : Program) (rs : List ResultVar) (ts : List TypeId) (p : Prop) [Decidable p] (a b : Option (Ex × St)) : fin P rs ts (if p then a else b) = if p then fin P rs ts a else fin P rs ts b := by split <;> rfl
theorem fin_cond (P : Program) (rs : List ResultVar) (ts : List TypeId) (p : Bool) (a b : Option (Ex × St)) : fin P rs ts (bif p then a else b) = bif p then fin P rs ts a else fin P rs ts b := by cases p <;> rfl
theorem run_eq {fn : Func} {b : Code} (hb : fn.body = some b) (xs : List T) (hx : xs.length ≤ fn.ntmps) (hk : okFuncN (E.nd f) fn = true) :
    runF E O f fn xs = fin E.P fn.results.toList fn.resultTypes.toList (exec E O f .nor [.code b] ⟨params 0 xs, [], 0⟩) := by
  simp only [runF, hb, exec, if_pos (show xs.length ≤ fn.ntmps ∧ okFuncN (E.nd f) fn = true from ⟨hx, hk⟩)]
  cases te E O f b ⟨params 0 xs, [], 0⟩ with
  | none => rfl
  | some r => obtain ⟨e, S⟩ := r; cases e <;> rfl
end

section
variable {E : Env} {O : Ora} {f : FuncId}
/-- The end of a round. -/
def endL (E : Env) (f id : Nat) (again : St → Option (Ex × St)) (r : Option (Ex × St)) : Option (Ex × St) :=
  match r with
  | some (.nor, S) => again S
  | some (.exit i, S) => (focus (E.kp f id).2 S).map fun S => (.exit i, S)
  | some (.ret, S) => (focus (E.kr f) S).map fun S => (.ret, S)
  | none => none
theorem endL_none (id : Nat) (again : St → Option (Ex × St)) : endL E f id again none = none := rfl
theorem endL_nor (id : Nat) (again : St → Option (Ex × St)) (S : St) : endL E f id again (some (.nor, S)) = again S := rfl
theorem endL_ret (id : Nat) (again : St → Option (Ex × St)) (S : St) : endL E f id again (some (.ret, S)) = (focus (E.kr f) S).map fun S => (.ret, S) := rfl
theorem endL_exit (id i : Nat) (again : St → Option (Ex × St)) (S : St) : endL E f id again (some (.exit i, S)) = (focus (E.kp f id).2 S).map fun S => (.exit i, S) := rfl
theorem endL_ite (id : Nat) (again : St → Option (Ex × St)) (p : Prop) [Decidable p] (a b : Option (Ex × St)) : endL E f id again (if p then a else b) = if p then endL E f id again a else endL E f id again b := by split <;> rfl
theorem runL_eq {id : Nat} {b : Code} {again : St → Option (Ex × St)} {S S0 : St} (hb : ((E.P.funcs[f]?).bind fun fn => fn.body.bind (findLoop id)) = some b) (hf : focus (E.kp f id).1 (prep (E.own f id) S) = some S0) :
    runL E O f id again S = endL E f id again (exec E O f .nor [.code b] S0) := by
  simp only [runL, hf, hb, Option.bind_some, exec]
  cases te E O f b S0 with
  | none => rfl
  | some r => obtain ⟨e, S⟩ := r; cases e <;> rfl
end
/-! Numbers. -/
section
variable (P : Program) (xt : TypeId) (x y : Operand) (a b : Int) (k : IntKind)
theorem bin_add : bin2 P .add xt x y (.c (.v (.int k a))) (.c (.v (.int k b))) = some (.c (.v (.int k (k.wrap (a + b))))) := by
  simp [bin2, eqGuard, peel, binOp, Op.intArith, pure, bind, Sem.bind, ofV, flat]
theorem bin_sub : bin2 P .sub xt x y (.c (.v (.int k a))) (.c (.v (.int k b))) = some (.c (.v (.int k (k.wrap (a - b))))) := by
  simp [bin2, eqGuard, peel, binOp, Op.intArith, pure, bind, Sem.bind, ofV, flat]
theorem bin_mul : bin2 P .mul xt x y (.c (.v (.int k a))) (.c (.v (.int k b))) = some (.c (.v (.int k (k.wrap (a * b))))) := by
  simp [bin2, eqGuard, peel, binOp, Op.intArith, pure, bind, Sem.bind, ofV, flat]
theorem bin_eql : bin2 P .eql xt x y (.c (.v (.int k a))) (.c (.v (.int k b))) = some (B (decide (a = b))) := by
  simp [bin2, eqGuard, peel, binOp, Op.intCmp, pure, bind, Sem.bind, ofV, flat]; rfl
theorem bin_neq : bin2 P .neq xt x y (.c (.v (.int k a))) (.c (.v (.int k b))) = some (B (!decide (a = b))) := by
  simp [bin2, eqGuard, peel, binOp, Op.intCmp, pure, bind, Sem.bind, ofV, flat]; rfl
theorem bin_lss : bin2 P .lss xt x y (.c (.v (.int k a))) (.c (.v (.int k b))) = some (B (decide (a < b))) := by
  simp [bin2, eqGuard, peel, binOp, Op.intCmp, pure, bind, Sem.bind, ofV, flat]
theorem bin_leq : bin2 P .leq xt x y (.c (.v (.int k a))) (.c (.v (.int k b))) = some (B (decide (a ≤ b))) := by
  simp [bin2, eqGuard, peel, binOp, Op.intCmp, pure, bind, Sem.bind, ofV, flat]
theorem bin_gtr : bin2 P .gtr xt x y (.c (.v (.int k a))) (.c (.v (.int k b))) = some (B (decide (b < a))) := by
  simp [bin2, eqGuard, peel, binOp, Op.intCmp, pure, bind, Sem.bind, ofV, flat]
theorem bin_geq : bin2 P .geq xt x y (.c (.v (.int k a))) (.c (.v (.int k b))) = some (B (decide (b ≤ a))) := by
  simp [bin2, eqGuard, peel, binOp, Op.intCmp, pure, bind, Sem.bind, ofV, flat]
theorem bin_quo : bin2 P .quo xt x y (.c (.v (.int k a))) (.c (.v (.int k b))) = if b = 0 then none else some (.c (.v (.int k (k.wrap (Int.tdiv a b))))) := by
  by_cases h : b = 0
  · simp [bin2, eqGuard, peel, binOp, Op.intDiv, pure, bind, Sem.bind, ofV, flat, h, runtimePanic, program, goPanic]
  · simp [bin2, eqGuard, peel, binOp, Op.intDiv, pure, bind, Sem.bind, ofV, flat, h]
theorem bin_rem : bin2 P .rem xt x y (.c (.v (.int k a))) (.c (.v (.int k b))) = if b = 0 then none else some (.c (.v (.int k (Int.tmod a b)))) := by
  by_cases h : b = 0
  · simp [bin2, eqGuard, peel, binOp, Op.intDiv, pure, bind, Sem.bind, ofV, flat, h, runtimePanic, program, goPanic]
  · simp [bin2, eqGuard, peel, binOp, Op.intDiv, pure, bind, Sem.bind, ofV, flat, h]
theorem un_neg : un1 P .neg (.c (.v (.int k a))) = some (.c (.v (.int k (k.wrap (0 - a))))) := by
  simp [un1, peel, Op.unary, Op.intArith, pure, ofV, flat]
theorem un_not (q : Bool) : un1 P .not (.c (.v (.bool q))) = some (B (!q)) := by
  simp [un1, peel, Op.unary, pure, ofV, flat]
end
/-- Cells of whole numbers. -/
def ints (xs : List Int) : List C := xs.map fun x => .v (.int .i64 x)
theorem ints_at (xs : List Int) (k : Nat) : ((ints xs)[k]?).map T.c = if k < xs.length then some (I (xs.getD k 0)) else none := by
  simp only [ints, List.getElem?_map, List.getD_eq_getElem?_getD]
  by_cases h : k < xs.length
  · simp [h]
  · simp [h, List.getElem?_eq_none (Nat.le_of_not_lt h)]
theorem toL {α : Type} (l : List α) : l.toArray.toList = l := rfl
theorem bind_some {α β : Type} (a : α) (k : α → Option β) : (some a).bind k = k a := rfl
theorem map_some {α β : Type} (a : α) (k : α → β) : (some a).map k = some (k a) := rfl
theorem bind_ite {α β : Type} (p : Prop) [Decidable p] (a b : Option α) (k : α → Option β) : (if p then a else b).bind k = if p then a.bind k else b.bind k := by split <;> rfl
theorem map_ite {α β : Type} (p : Prop) [Decidable p] (a b : Option α) (k : α → β) : (if p then a else b).map k = if p then a.map k else b.map k := by split <;> rfl
theorem bind_none {α β : Type} (k : α → Option β) : (none : Option α).bind k = none := rfl
theorem map_none {α β : Type} (k : α → β) : (none : Option α).map k = none := rfl
theorem v0_some (x : T) : v0 (some x) = some (x, [], []) := rfl
theorem v0_none : v0 none = none := rfl
theorem v0_ite (p : Prop) [Decidable p] (a b : Option T) : v0 (if p then a else b) = if p then v0 a else v0 b := by split <;> rfl
theorem v0_cond (p : Bool) (a b : Option T) : v0 (bif p then a else b) = bif p then v0 a else v0 b := by cases p <;> rfl
theorem v1_some (x : T) (os : List Ob) : v1 (some (x, os)) = some (x, os, []) := rfl
theorem v1_none : v1 none = none := rfl
theorem v1_ite (p : Prop) [Decidable p] (a b : Option (T × List Ob)) : v1 (if p then a else b) = if p then v1 a else v1 b := by split <;> rfl
end Go.Proofs.YtnbijiopcgfmfaaGreat.Tev
/- Slices that are only read, in one form; calls and loops in the form in which they are rewritten. -/
namespace Go.Proofs.YtnbijiopcgfmfaaGreat.Tev
open Go Go.RowKit
set_option linter.unusedSectionVars false
set_option linter.unusedSimpArgs false
set_option linter.unusedVariables false
/-- A slice that is only read, frozen or not. -/
def SL (b : Bool) (cap : Option Nat) (n : Nat) (l : List C) : T := match b with | true => .c (.s cap n l) | false => .tmp cap n l
def US (b : Bool) (cap : Option Nat) (n : Nat) (l : List C) : U := match b with | true => .c (.s cap n l) | false => .tmp cap n l
section
variable (b : Bool) (cap : Option Nat) (n : Nat) (l : List C)
theorem US_toT : (US b cap n l).toT = SL b cap n l := by cases b <;> rfl
theorem lenT_SL (S : St) (e : TypeId) : lenT S (some (.slice e)) (SL b cap n l) = some (I n) := by cases b <;> rfl
theorem index_SL (P : Program) (t : TypeId) (i : T) : indexAddrT P t (SL b cap n l) i = (asI i).bind fun k => (elemOf P t).bind fun e => (szOf P e).bind fun sz => if 0 ≤ k ∧ k < (n : Int) then some (.rp b l (k.toNat * sz)) else none := by cases b <;> rfl
theorem index_s (P : Program) (t : TypeId) (k : IntKind) (i : Int) : indexAddrT P t (.c (.s cap n l)) (.c (.v (.int k i))) = (elemOf P t).bind fun e => (szOf P e).bind fun sz => if 0 ≤ i ∧ i < (n : Int) then some (.rp true l (i.toNat * sz)) else none := rfl
theorem index_tmp (P : Program) (t : TypeId) (k : IntKind) (i : Int) : indexAddrT P t (.tmp cap n l) (.c (.v (.int k i))) = (elemOf P t).bind fun e => (szOf P e).bind fun sz => if 0 ≤ i ∧ i < (n : Int) then some (.rp false l (i.toNat * sz)) else none := rfl
theorem index_sl (P : Program) (t : TypeId) (k : IntKind) (i : Int) (o off sz : Nat) : indexAddrT P t (.sl o off n sz cap) (.c (.v (.int k i))) = (elemOf P t).bind fun e => (szOf P e).bind fun sz => if 0 ≤ i ∧ i < (n : Int) then some (.pt o (off + i.toNat * sz)) else none := rfl
theorem index_pt (P : Program) (t : TypeId) (k : IntKind) (i : Int) (o off : Nat) : indexAddrT P t (.pt o off) (.c (.v (.int k i))) = (arrOf P t).bind fun a => (szOf P a.2).bind fun sz => if 0 ≤ i ∧ i < (a.1 : Int) then some (.pt o (off + i.toNat * sz)) else none := rfl
theorem index_rp (P : Program) (t : TypeId) (k : IntKind) (i : Int) (q : Bool) (off : Nat) : indexAddrT P t (.rp q l off) (.c (.v (.int k i))) = (arrOf P t).bind fun a => (szOf P a.2).bind fun sz => if 0 ≤ i ∧ i < (a.1 : Int) then some (.rp q l (off + i.toNat * sz)) else none := rfl
theorem sliceT_SL (S : St) (e : Nat) (lo hi mx : Option T) : sliceT S e (SL b cap n l) lo hi mx = (sliceBnd n cap lo hi mx).map fun p => SL b (p.2.2.map (· - p.1)) (p.2.1 - p.1) (rowAt l (p.1 * e) ((p.2.1 - p.1) * e)) := by cases b <;> rfl
theorem shown_SL (S : St) : shown S (SL b cap n l) = some (n, l) := by cases b <;> rfl
theorem snapC_SL (S : St) : snapC S (SL b cap n l) = some (US b cap n l) := by cases b <;> rfl
theorem snapP_SL (S : St) : snapP S (SL b cap n l) = some (SL b cap n l) := by cases b <;> rfl
theorem snap_SL (S : St) : snap S (SL b cap n l) = some (SL b cap n l) := by cases b <;> rfl
theorem focC_SL (S : St) (d : Bool) (F : Foc) : focC S d F (SL b cap n l) = some (SL b cap n l, F) := by cases b <;> rfl
theorem focP_SL (S : St) (d : Bool) (F : Foc) : focP S d F (SL b cap n l) = some (SL b cap n l, F) := by cases b <;> rfl
theorem foc1_SL (S : St) (d : Bool) (F : Foc) : foc1 S d F (SL b cap n l) = some (SL b cap n l, F) := by cases b <;> rfl
theorem cellsOf_SL : cellsOf (SL b cap n l) = some [SL b cap n l] := by cases b <;> rfl
theorem oneT_SL : oneT (SL b cap n l) = true := by cases b <;> rfl
theorem toC_SL (S : St) : toC S (SL true cap n l) = some (.s cap n l, []) := rfl
theorem expC_SL (S : St) (acc : List Nat × List (List C)) (sz : Option Nat) (h : ¬ (cap = some 0 ∧ n = 0 ∧ l = [])) : expC S acc (SL true cap n l) sz = some (.c (.s cap n l), acc.1, acc.2) := by
  show expC S acc (.c (.s cap n l)) sz = _
  unfold expC
  split <;> first | rfl | (simp_all; done)
end
/-! The evaluator's words, by constructors. -/
section
variable (S : St) (d : Bool) (F : Foc) (x : C) (cap : Option Nat) (n : Nat) (l : List C) (q : Bool) (off o sz : Nat) (lt : List T) (lu : List U) (f : FuncId)
theorem focC_sl : focC S d F (.sl o off n sz cap) = (match (if d then none else look F.ren o) with
    | some o' => some (.sl o' off n sz cap, F)
    | none =>
      match obj S.o o with
      | some (.arr l g gen) =>
        match look F.gs g with
        | some g' => some (.sl F.n off n sz cap, { F with ren := (o, F.n) :: F.ren, o := F.o ++ [(F.n, .arr l g' (if tipOk g gen S.o then min gen 1 else 0))], n := F.n + 1 })
        | none => some (.sl F.n off n sz cap, { ren := (o, F.n) :: F.ren, gs := (g, F.n) :: F.gs, o := F.o ++ [(F.n, .arr l F.n (if tipOk g gen S.o then min gen 1 else 0))], n := F.n + 1 })
      | some (.fz l) => some (.sl F.n off n sz cap, { F with ren := (o, F.n) :: F.ren, o := F.o ++ [(F.n, .fz l)], n := F.n + 1 })
      | _ => none) := rfl
theorem focC_mp : focC S d F (.mp o) = (match look F.ren o with
    | some o' => some (.mp o', F)
    | none =>
      match obj S.o o with
      | some (.mp es c) => some (.mp F.n, { F with ren := (o, F.n) :: F.ren, o := F.o ++ [(F.n, .mp es c)], n := F.n + 1 })
      | _ => none) := rfl
theorem focC_c : focC S d F (.c x) = some (.c x, F) := rfl
theorem focC_tmp : focC S d F (.tmp cap n l) = some (.tmp cap n l, F) := rfl
theorem focC_rp : focC S d F (.rp q l off) = some (.rp q l off, F) := rfl
theorem focC_rb : focC S d F (.rb lu off) = some (.rb lu off, F) := rfl
theorem focC_und : focC S d F .und = some (.und, F) := rfl
theorem focC_junk : focC S d F .junk = some (.junk, F) := rfl
theorem focP_pt : focP S d F (.pt o off) = (match look F.ren o with
    | some o' => some (.pt o' off, F)
    | none =>
      match obj S.o o with
      | some (.box l) => (focL S d l F).map fun a => (.pt a.2.n off, { a.2 with ren := (o, a.2.n) :: a.2.ren, o := a.2.o ++ [(a.2.n, .box a.1)], n := a.2.n + 1 })
      | _ => none) := rfl
theorem focP_sl : focP S d F (.sl o off n sz cap) = focC S d F (.sl o off n sz cap) := rfl
theorem focP_mp : focP S d F (.mp o) = focC S d F (.mp o) := rfl
theorem focP_c : focP S d F (.c x) = some (.c x, F) := rfl
theorem focP_tmp : focP S d F (.tmp cap n l) = some (.tmp cap n l, F) := rfl
theorem focP_rp : focP S d F (.rp q l off) = some (.rp q l off, F) := rfl
theorem focP_rb : focP S d F (.rb lu off) = some (.rb lu off, F) := rfl
theorem focP_junk : focP S d F .junk = some (.junk, F) := rfl
theorem foc1_agg : foc1 S d F (.agg lt) = (focL S d lt F).map fun a => (.agg a.1, a.2) := rfl
theorem foc1_tup : foc1 S d F (.tup lt) = (focL S d lt F).map fun a => (.tup a.1, a.2) := rfl
theorem foc1_fn : foc1 S d F (.fn f lt) = (focPs S d lt F).map fun a => (.fn f a.1, a.2) := rfl
theorem foc1_pt : foc1 S d F (.pt o off) = focP S d F (.pt o off) := rfl
theorem foc1_sl : foc1 S d F (.sl o off n sz cap) = focC S d F (.sl o off n sz cap) := rfl
theorem foc1_mp : foc1 S d F (.mp o) = focC S d F (.mp o) := rfl
theorem foc1_c : foc1 S d F (.c x) = some (.c x, F) := rfl
theorem foc1_tmp : foc1 S d F (.tmp cap n l) = some (.tmp cap n l, F) := rfl
theorem foc1_rp : foc1 S d F (.rp q l off) = some (.rp q l off, F) := rfl
theorem foc1_rb : foc1 S d F (.rb lu off) = some (.rb lu off, F) := rfl
theorem foc1_und : foc1 S d F .und = some (.und, F) := rfl
theorem foc1_junk : foc1 S d F .junk = some (.junk, F) := rfl
theorem snapC_sl : snapC S (.sl o off n sz cap) = (match obj S.o o with
    | some (.arr l _ _) => some (.tmp cap n (rowAt l off (n * sz)))
    | some (.fz l) => some (.c (.s cap n (rowAt l off (n * sz))))
    | _ => none) := rfl
theorem snapC_c : snapC S (.c x) = some (.c x) := rfl
theorem snapC_tmp : snapC S (.tmp cap n l) = some (.tmp cap n l) := rfl
theorem snapC_rp : snapC S (.rp q l off) = some (.rp q l off) := rfl
theorem snapC_mp : snapC S (.mp o) = (match obj S.o o with | some (.mp es _) => some (.ms es) | _ => none) := rfl
theorem snapC_ms (es : List (Value × C × Nat)) : snapC S (.ms es) = some (.ms es) := rfl
theorem snapP_mp : snapP S (.mp o) = (snapC S (.mp o)).map U.toT := rfl
theorem snapP_ms (es : List (Value × C × Nat)) : snapP S (.ms es) = some (.ms es) := rfl
theorem snap_mp : snap S (.mp o) = (snapC S (.mp o)).map U.toT := rfl
theorem snap_ms (es : List (Value × C × Nat)) : snap S (.ms es) = some (.ms es) := rfl
theorem focC_ms (es : List (Value × C × Nat)) : focC S d F (.ms es) = some (.ms es, F) := rfl
theorem focP_ms (es : List (Value × C × Nat)) : focP S d F (.ms es) = some (.ms es, F) := rfl
theorem foc1_ms (es : List (Value × C × Nat)) : foc1 S d F (.ms es) = some (.ms es, F) := rfl
theorem lenT_ms (k e : TypeId) (es : List (Value × C × Nat)) : lenT S (some (.map k e)) (.ms es) = some (I es.length) := rfl
theorem cellsOf_ms (es : List (Value × C × Nat)) : cellsOf (.ms es) = some [.ms es] := rfl
theorem oneT_ms (es : List (Value × C × Nat)) : oneT (.ms es) = true := rfl
theorem toT_ms (es : List (Value × C × Nat)) : (U.ms es).toT = .ms es := rfl
theorem snapC_junk : snapC S .junk = some .junk := rfl
theorem snapP_pt : snapP S (.pt o off) = (match obj S.o o with
    | some (.box l) => (mapO (snapC S) l).map fun l' => .rb l' off
    | some (.arr l _ _) => some (.rp false l off)
    | some (.fz l) => some (.rp true l off)
    | _ => none) := rfl
theorem snapP_rb : snapP S (.rb lu off) = some (.rb lu off) := rfl
theorem snapP_sl : snapP S (.sl o off n sz cap) = (snapC S (.sl o off n sz cap)).map U.toT := rfl
theorem snapP_c : snapP S (.c x) = some (.c x) := rfl
theorem snapP_tmp : snapP S (.tmp cap n l) = some (.tmp cap n l) := rfl
theorem snapP_rp : snapP S (.rp q l off) = some (.rp q l off) := rfl
theorem snapP_junk : snapP S .junk = some .junk := rfl
theorem snap_agg : snap S (.agg lt) = (mapO (snapC S) lt).map fun l' => .agg (l'.map U.toT) := rfl
theorem snap_fn : snap S (.fn f lt) = (mapO (snapP S) lt).map (.fn f) := rfl
theorem snap_pt : snap S (.pt o off) = snapP S (.pt o off) := rfl
theorem snap_rb : snap S (.rb lu off) = some (.rb lu off) := rfl
theorem snap_sl : snap S (.sl o off n sz cap) = (snapC S (.sl o off n sz cap)).map U.toT := rfl
theorem snap_c : snap S (.c x) = some (.c x) := rfl
theorem snap_tmp : snap S (.tmp cap n l) = some (.tmp cap n l) := rfl
theorem snap_rp : snap S (.rp q l off) = some (.rp q l off) := rfl
theorem snap_junk : snap S .junk = some .junk := rfl
theorem lenT_str (s : ByteArray) : lenT S (some .string) (.c (.v (.string s))) = some (I s.size) := rfl
theorem lenT_s (e : TypeId) : lenT S (some (.slice e)) (.c (.s cap n l)) = some (I n) := rfl
theorem lenT_tmp (e : TypeId) : lenT S (some (.slice e)) (.tmp cap n l) = some (I n) := rfl
theorem lenT_sl (e : TypeId) : lenT S (some (.slice e)) (.sl o off n sz cap) = some (I n) := rfl
theorem lenT_mp (k e : TypeId) : lenT S (some (.map k e)) (.mp o) = (match obj S.o o with | some (.mp es _) => some (I es.length) | _ => none) := rfl
theorem sliceT_s (e : Nat) (lo hi mx : Option T) : sliceT S e (.c (.s cap n l)) lo hi mx = (sliceBnd n cap lo hi mx).map fun p => .c (.s (p.2.2.map (· - p.1)) (p.2.1 - p.1) (rowAt l (p.1 * e) ((p.2.1 - p.1) * e))) := rfl
theorem sliceT_tmp (e : Nat) (lo hi mx : Option T) : sliceT S e (.tmp cap n l) lo hi mx = (sliceBnd n cap lo hi mx).map fun p => .tmp (p.2.2.map (· - p.1)) (p.2.1 - p.1) (rowAt l (p.1 * e) ((p.2.1 - p.1) * e)) := rfl
theorem sliceT_sl (e : Nat) (lo hi mx : Option T) : sliceT S e (.sl o off n sz cap) lo hi mx = if sz = e then (sliceBnd n cap lo hi mx).map fun p => .sl o (off + p.1 * e) (p.2.1 - p.1) e (p.2.2.map (· - p.1)) else none := rfl
theorem shown_s : shown S (.c (.s cap n l)) = some (n, l) := rfl
theorem shown_tmp : shown S (.tmp cap n l) = some (n, l) := rfl
theorem shown_sl : shown S (.sl o off n sz cap) = (match obj S.o o with
    | some (.arr l _ _) => some (n, rowAt l off (n * sz))
    | some (.fz l) => some (n, rowAt l off (n * sz))
    | _ => none) := rfl
theorem cellsOf_agg : cellsOf (.agg lt) = some lt := rfl
theorem cellsOf_c : cellsOf (.c x) = some [.c x] := rfl
theorem cellsOf_tmp : cellsOf (.tmp cap n l) = some [.tmp cap n l] := rfl
theorem cellsOf_sl : cellsOf (.sl o off n sz cap) = some [.sl o off n sz cap] := rfl
theorem cellsOf_pt : cellsOf (.pt o off) = some [.pt o off] := rfl
theorem cellsOf_mp : cellsOf (.mp o) = some [.mp o] := rfl
theorem cellsOf_fn : cellsOf (.fn f lt) = some [.fn f lt] := rfl
theorem oneT_c : oneT (.c x) = true := rfl
theorem oneT_tmp : oneT (.tmp cap n l) = true := rfl
theorem oneT_sl : oneT (.sl o off n sz cap) = true := rfl
theorem oneT_pt : oneT (.pt o off) = true := rfl
theorem oneT_mp : oneT (.mp o) = true := rfl
theorem oneT_fn : oneT (.fn f lt) = true := rfl
theorem toC_c : toC S (.c x) = some (x, []) := rfl
theorem toC_sl : toC S (.sl o off n sz cap) = (match obj S.o o with
    | some (.arr l g _) => some (.s none n (rowAt l off (n * sz)), [g])
    | some (.fz l) => some (.s none n (rowAt l off (n * sz)), [])
    | _ => none) := rfl
theorem expC_sl (acc : List Nat × List (List C)) (ts : Option Nat) : expC S acc (.sl o off n sz cap) ts = (match obj S.o o with
    | some (.arr l g _) => if acc.1.contains g then none else some (.sl acc.2.length 0 n sz none, g :: acc.1, acc.2 ++ [rowAt l off (n * sz)])
    | some (.fz l) => some (.c (.s none n (rowAt l off (n * sz))), acc.1, acc.2)
    | _ => none) := rfl
theorem expC_nil (acc : List Nat × List (List C)) : expC S acc (.c (.s (some 0) 0 [])) (some sz) = some (.sl acc.2.length 0 0 sz none, acc.1, acc.2 ++ [[]]) := rfl
theorem expC_v (acc : List Nat × List (List C)) (ts : Option Nat) (v : Value) : expC S acc (.c (.v v)) ts = some (.c (.v v), acc.1, acc.2) := by cases ts <;> rfl
theorem expC_s (acc : List Nat × List (List C)) (ts : Option Nat) : expC S acc (.c (.s none n l)) ts = some (.c (.s none n l), acc.1, acc.2) := by cases ts <;> rfl
theorem expA_agg (acc : List Nat × List (List C)) (ts : List (Option Nat)) : expA S acc (.agg lt) ts = (expL S lt ts acc).map fun a => (.agg a.1, a.2) := rfl
theorem expA_c (acc : List Nat × List (List C)) (ts : List (Option Nat)) : expA S acc (.c x) ts = expC S acc (.c x) (ts.headD none) := rfl
theorem expA_sl (acc : List Nat × List (List C)) (ts : List (Option Nat)) : expA S acc (.sl o off n sz cap) ts = expC S acc (.sl o off n sz cap) (ts.headD none) := rfl
theorem expA_SL (acc : List Nat × List (List C)) (ts : List (Option Nat)) : expA S acc (SL q cap n l) ts = expC S acc (SL q cap n l) (ts.headD none) := by cases q <;> rfl
theorem toT_c : (U.c x).toT = .c x := rfl
theorem toT_junk : U.junk.toT = .junk := rfl
theorem toT_tmp : (U.tmp cap n l).toT = .tmp cap n l := rfl
theorem toT_rp : (U.rp q l off).toT = .rp q l off := rfl
theorem liftC_sl (k : Nat) : liftC k (.sl o off n sz cap) = .sl (k + o) off n sz cap := rfl
theorem liftC_c (k : Nat) : liftC k (.c x) = .c x := rfl
theorem liftA_agg (k : Nat) : liftA k (.agg lt) = .agg (lt.map (liftC k)) := rfl
theorem liftA_sl (k : Nat) : liftA k (.sl o off n sz cap) = .sl (k + o) off n sz cap := rfl
theorem liftA_c (k : Nat) : liftA k (.c x) = .c x := rfl
theorem lift_tup (k : Nat) : lift k (.tup lt) = .tup (lt.map (liftA k)) := rfl
theorem lift_agg (k : Nat) : lift k (.agg lt) = .agg (lt.map (liftC k)) := rfl
theorem lift_sl (k : Nat) : lift k (.sl o off n sz cap) = .sl (k + o) off n sz cap := rfl
theorem lift_c (k : Nat) : lift k (.c x) = .c x := rfl
theorem nilT_pt : nilT (.pt o off) = some (.pt o off) := rfl
theorem nilT_rp : nilT (.rp q l off) = some (.rp q l off) := rfl
theorem nilT_rb : nilT (.rb lu off) = some (.rb lu off) := rfl
end
section
variable (b : Bool) (cap : Option Nat) (n : Nat) (l : List C)
theorem asI_I (k : IntKind) (i : Int) : asI (.c (.v (.int k i))) = some i := rfl
/-- Nothing is done; the form alone is turned. -/
def nrm (x : T) : T := x
def nrmU (x : U) : U := x
theorem nrm_s : nrm (.c (.s cap n l)) = SL true cap n l := rfl
theorem nrm_tmp : nrm (.tmp cap n l) = SL false cap n l := rfl
theorem nrm_SL : nrm (SL b cap n l) = SL b cap n l := rfl
theorem nrmU_s : nrmU (.c (.s cap n l)) = US true cap n l := rfl
theorem nrmU_tmp : nrmU (.tmp cap n l) = US false cap n l := rfl
theorem nrmU_US : nrmU (US b cap n l) = US b cap n l := rfl
end
theorem nrm_v (x : Value) : nrm (.c (.v x)) = .c (.v x) := rfl
theorem nrmU_v (x : Value) : nrmU (.c (.v x)) = .c (.v x) := rfl
theorem nrm_id : nrm = id := rfl
theorem nrmU_id : nrmU = id := rfl
theorem nrm_agg (l : List T) : nrm (.agg l) = .agg (l.map nrm) := by rw [nrm_id, List.map_id]; rfl
theorem nrm_fn (f : FuncId) (l : List T) : nrm (.fn f l) = .fn f (l.map nrm) := by rw [nrm_id, List.map_id]; rfl
theorem nrm_rb (l : List U) (o : Nat) : nrm (.rb l o) = .rb (l.map nrmU) o := by rw [nrmU_id, List.map_id]; rfl
theorem nrm_rp (p : Bool) (l : List C) (o : Nat) : nrm (.rp p l o) = .rp p l o := rfl
theorem nrm_junk : nrm .junk = .junk := rfl
theorem nrm_ms (es : List (Value × C × Nat)) : nrm (.ms es) = .ms es := rfl
theorem nrmU_ms (es : List (Value × C × Nat)) : nrmU (.ms es) = .ms es := rfl
theorem nrmU_junk : nrmU .junk = .junk := rfl
theorem nrmU_rp (p : Bool) (l : List C) (o : Nat) : nrmU (.rp p l o) = .rp p l o := rfl
theorem callT_nrm (cl : FuncId → List T → Option R) (S : St) (f : FuncId) (caps xs : List T) :
    callT cl S (.fn f caps) xs = (mapO (snap S) xs).bind fun a => (mapO (snapP S) caps).bind fun c => (cl f ((a ++ c).map nrm)).map fun r => (lift S.n r.1, arrs S.n r.2) := by
  rw [nrm_id]
  simp only [List.map_id, callT]

section
variable {E : Env} {pr : FuncId → List T → Option R}
theorem lim_loop_eq (f id : Nat) (S : St) : (lim E pr).loop f id S = runL E (lim E pr) f id ((lim E pr).loop f id) S := by
  cases h : runL E (lim E pr) f id ((lim E pr).loop f id) S with
  | some r => exact lim_round h
  | none =>
    cases h2 : (lim E pr).loop f id S with
    | none => rfl
    | some r =>
      obtain ⟨n, hn⟩ := lim_loop.1 h2
      cases n with
      | zero => simp [ora] at hn
      | succ n =>
        rw [ora] at hn
        have := (runL_few E f id (again := fun O => O.loop f id) (fun S => .loop f id S) S).le (O' := lim E pr) ⟨fun f xs r h => lim_call.2 ⟨n, h⟩, fun f id S r h => lim_loop.2 ⟨n, h⟩⟩ hn
        rw [h] at this; simp at this
/-- A loop from a state laid anew on. -/
noncomputable def lp (E : Env) (pr : FuncId → List T → Option R) (f id : Nat) (S0 : St) : Option (Ex × St) :=
  ((E.P.funcs[f]?).bind fun fn => fn.body.bind (findLoop id)).bind fun b => endL E f id ((lim E pr).loop f id) (exec E (lim E pr) f .nor [.code b] S0)
theorem loop_lp (f id : Nat) (S : St) : (lim E pr).loop f id S = (focus (E.kp f id).1 (prep (E.own f id) S)).bind (lp E pr f id) := by
  rw [lim_loop_eq]
  unfold runL
  cases focus (E.kp f id).1 (prep (E.own f id) S) with
  | none => rfl
  | some S0 =>
    simp only [Option.bind_some, lp]
    cases ((E.P.funcs[f]?).bind fun fn => fn.body.bind (findLoop id)) with
    | none => rfl
    | some b =>
      simp only [Option.bind_some, exec, endL]
      cases te E (lim E pr) f b S0 with
      | none => rfl
      | some r => obtain ⟨e, S⟩ := r; cases e <;> rfl
theorem lp_eq {f id : Nat} {b : Code} {S0 : St} (hb : ((E.P.funcs[f]?).bind fun fn => fn.body.bind (findLoop id)) = some b) :
    lp E pr f id S0 = endL E f id ((lim E pr).loop f id) (exec E (lim E pr) f .nor [.code b] S0) := by
  simp only [lp, hb, Option.bind_some]
/-- A function's answer, by its code. -/
theorem lim_run {f : FuncId} {fn : Func} {b : Code} {xs : List T} {r : R} (hf : E.P.funcs[f]? = some fn) (hp : pr f xs = none) (hb : fn.body = some b) (hx : xs.length ≤ fn.ntmps) (hk : okFuncN (E.nd f) fn = true)
    (h : fin E.P fn.results.toList fn.resultTypes.toList (exec E (lim E pr) f .nor [.code b] ⟨params 0 xs, [], 0⟩) = some r) : (lim E pr).call f xs = some r :=
  lim_fun hf hp (by rw [run_eq hb xs hx hk]; exact h)
end
section
variable {E : Env} {O : Ora} {f : FuncId}
/-- Ways that part by a proposition. -/
theorem cond1_dec (p : Prop) [Decidable p] (t : Nat) (a b : Code) (k : List It) (S : St) :
    cond1 E O f (.c (.v (.bool (decide p)))) (.tmp t) a b k S = if p then exec E O f .nor (.code a :: k) (S.put t (B true)) else exec E O f .nor (.code b :: k) (S.put t (B false)) := by
  by_cases h : p <;> simp [cond1, h]
theorem guard1_dec (p : Prop) [Decidable p] (g : Nat) (want : Bool) (d : Option Nat) (op : Op) (ty : TypeId) (pos : String) (af : Array Edge) (q : Option (Nat × Bool)) (dr : Bool) (all : Array Oper) (l : List Oper) (k : List It) (S : St) :
    guard1 E O f (.c (.v (.bool (decide p)))) g want ⟨d, op, ty, pos, af, q⟩ dr all l k S = if p
      then (if want = true then exec E O f .nor (.ops dr all (⟨d, op, ty, pos, af, none⟩ :: l) :: k) (S.put g (B true)) else exec E O f .nor (.ops dr all l :: k) ((S.put g (B true)).putO d .und))
      else (if want = true then exec E O f .nor (.ops dr all l :: k) ((S.put g (B false)).putO d .und) else exec E O f .nor (.ops dr all (⟨d, op, ty, pos, af, none⟩ :: l) :: k) (S.put g (B false))) := by
  by_cases h : p <;> simp [guard1, h]
theorem loop1_ite (p : Prop) [Decidable p] (a b : Option (Ex × St)) (k : List It) : loop1 E O f (if p then a else b) k = if p then loop1 E O f a k else loop1 E O f b k := by split <;> rfl
end
theorem not_dec (p : Prop) [Decidable p] : (!decide p) = decide (¬ p) := by simp
theorem equal_bool {P : Program} {xt : TypeId} (h : P.underlying xt = some .bool) (a b : Bool) : peel P (Op.equal xt (.bool a) (.bool b)) = some (a == b) := by
  unfold Op.equal Op.maxDepth
  show peel P (Op.equalIn (9999 + 1) xt (.bool a) (.bool b)) = _
  rw [Op.equalIn]
  simp [underlying, program, bind, Sem.bind, peel, h, pure]
theorem peel_bind (P : Program) {α β : Type} (x : Sem α) (k : α → Sem β) {a : α} (h : peel P x = some a) : peel P (x.bind k) = peel P (k a) := by
  induction x with
  | pure b => simp only [peel, Option.some.injEq] at h; subst h; rfl
  | program j ih => simp only [peel] at h; show peel P ((j P).bind k) = _; exact ih P h
  | mark m j ih => simp only [peel] at h; show peel P (j.bind k) = _; exact ih h
  | _ => simp [peel] at h
theorem bin_eqlB {P : Program} {xt : TypeId} (h : P.underlying xt = some .bool) (x y : Operand) (a b : Bool) : bin2 P .eql xt x y (.c (.v (.bool a))) (.c (.v (.bool b))) = some (B (decide (a = b))) := by
  have e := peel_bind P (Op.equal xt (.bool a) (.bool b)) (fun q => Sem.pure (Value.bool q)) (equal_bool h a b)
  simp only [bin2, eqGuard, binOp, bind, Sem.bind, pure]
  show (peel P ((Op.equal xt (.bool a) (.bool b)).bind fun q => Sem.pure (Value.bool q))).bind ofV = _
  rw [e]
  cases a <;> cases b <;> rfl
theorem bin_neqB {P : Program} {xt : TypeId} (h : P.underlying xt = some .bool) (x y : Operand) (a b : Bool) : bin2 P .neq xt x y (.c (.v (.bool a))) (.c (.v (.bool b))) = some (B (decide (¬ a = b))) := by
  have e := peel_bind P (Op.equal xt (.bool a) (.bool b)) (fun q => Sem.pure (Value.bool (!q))) (equal_bool h a b)
  simp only [bin2, eqGuard, binOp, bind, Sem.bind, pure]
  show (peel P ((Op.equal xt (.bool a) (.bool b)).bind fun q => Sem.pure (Value.bool (!q)))).bind ofV = _
  rw [e]
  cases a <;> cases b <;> rfl
theorem str_eq (a b : ByteArray) : (a.toList == b.toList) = decide (a = b) := by
  by_cases h : a = b
  · subst h; simp
  · rw [decide_eq_false h]
    refine beq_eq_false_iff_ne.2 fun q => h ?_
    rw [ByteArray.toList_eq, ByteArray.toList_eq] at q
    obtain ⟨x⟩ := a
    obtain ⟨y⟩ := b
    exact congrArg ByteArray.mk (Array.toList_inj.1 q)
theorem bin_eqlS (P : Program) (xt : TypeId) (x y : Operand) (a b : ByteArray) : bin2 P .eql xt x y (.c (.v (.string a))) (.c (.v (.string b))) = some (B (decide (a = b))) := by
  rw [← str_eq]
  simp only [bin2, eqGuard, binOp, bind, pure, Op.stringOp]
  rfl
theorem bin_neqR {P : Program} {xt : TypeId} (h : isRow2 P xt = true) (x y : Operand) (a b c d : Int) : bin2 P .neq xt x y (.agg [.c (.v (.int .i64 a)), .c (.v (.int .i64 b))]) (.agg [.c (.v (.int .i64 c)), .c (.v (.int .i64 d))]) = some (.c (.v (.bool (!decide (a = c ∧ b = d))))) := by
  show cmp2 P .neq xt a b c d = _
  unfold cmp2
  rw [if_pos h]
theorem bin_neqS (P : Program) (xt : TypeId) (x y : Operand) (a b : ByteArray) : bin2 P .neq xt x y (.c (.v (.string a))) (.c (.v (.string b))) = some (B (decide (¬ a = b))) := by
  rw [← not_dec, ← str_eq]
  simp only [bin2, eqGuard, binOp, bind, pure, Op.stringOp]
  rfl
theorem i64_wrap {x : Int} (h1 : -9223372036854775808 ≤ x) (h2 : x < 9223372036854775808) : IntKind.i64.wrap x = x := by
  rw [IntKind.wrap_i64]; omega
theorem rowAt_all (l : List C) (n : Nat) (h : n = l.length) : rowAt l 0 n = l := by subst h; simp [rowAt]
theorem ints_len (xs : List Int) : (ints xs).length = xs.length := by simp [ints]
theorem ints_append (xs ys : List Int) : ints xs ++ ints ys = ints (xs ++ ys) := by simp [ints]
theorem ints_snoc (xs : List Int) (y : Int) : ints xs ++ [.v (.int .i64 y)] = ints (xs ++ [y]) := by simp [ints]
theorem ints_nil : ints [] = [] := rfl
theorem ints_row (xs : List Int) (a n : Nat) : rowAt (ints xs) a n = ints ((xs.drop a).take n) := by simp [rowAt, ints]
theorem drop_cons {α : Type} {l : List α} {i : Nat} {x : α} {r : List α} (h : l.drop i = x :: r) : i < l.length ∧ l[i]? = some x ∧ l.drop (i + 1) = r := by
  have hi : i < l.length := by rcases Nat.lt_or_ge i l.length with h' | h'; exact h'; rw [List.drop_eq_nil_of_le h'] at h; simp at h
  rw [List.drop_eq_getElem_cons hi] at h
  simp only [List.cons.injEq] at h
  exact ⟨hi, by rw [List.getElem?_eq_getElem hi, h.1], h.2⟩
theorem range_1 : List.range 1 = [0] := rfl
theorem range_2 : List.range 2 = [0, 1] := rfl
theorem range_3 : List.range 3 = [0, 1, 2] := rfl
theorem range_4 : List.range 4 = [0, 1, 2, 3] := rfl
theorem range_5 : List.range 5 = [0, 1, 2, 3, 4] := rfl
theorem range_6 : List.range 6 = [0, 1, 2, 3, 4, 5] := rfl
theorem if_le {α : Type} {a b : Nat} (h : a ≤ b) (x y : α) : (if a ≤ b then x else y) = x := if_pos h
theorem min_11 : min 1 1 = 1 := rfl
theorem min_21 : min 2 1 = 1 := rfl
theorem min_01 : min 0 1 = 0 := rfl
theorem rowAt_1 (x : C) : rowAt [x] 0 1 = [x] := rfl
theorem rowAt_2 (x y : C) : rowAt [x, y] 0 2 = [x, y] := rfl
theorem rowAt_3 (x y z : C) : rowAt [x, y, z] 0 3 = [x, y, z] := rfl
theorem rowAt_4 (x y z u : C) : rowAt [x, y, z, u] 0 4 = [x, y, z, u] := rfl
theorem rowAt_5 (x y z u v : C) : rowAt [x, y, z, u, v] 0 5 = [x, y, z, u, v] := rfl
theorem rowAt_ints (xs : List Int) : rowAt (ints xs) 0 xs.length = ints xs := rowAt_all _ _ (by rw [ints_len])
theorem rowAt_ints2 (xs ys : List Int) : rowAt (ints (xs ++ ys)) 0 (xs.length + ys.length) = ints (xs ++ ys) := rowAt_all _ _ (by rw [ints_len, List.length_append])
theorem rowAt_nil (n : Nat) : rowAt [] 0 n = [] := by simp [rowAt]
theorem ints_1 (x : Int) : ints [x] = [.v (.int .i64 x)] := rfl
theorem ints_0 : ints [] = [] := rfl
theorem natc_0 : ((0 : Nat) : Int) = 0 := rfl
theorem natc_1 : ((1 : Nat) : Int) = 1 := rfl
theorem natc_2 : ((2 : Nat) : Int) = 2 := rfl
theorem natc_3 : ((3 : Nat) : Int) = 3 := rfl
theorem natc_4 : ((4 : Nat) : Int) = 4 := rfl
theorem natc_5 : ((5 : Nat) : Int) = 5 := rfl
theorem natc_6 : ((6 : Nat) : Int) = 6 := rfl
theorem natc_7 : ((7 : Nat) : Int) = 7 := rfl
theorem natc_8 : ((8 : Nat) : Int) = 8 := rfl
theorem natc_9 : ((9 : Nat) : Int) = 9 := rfl
theorem natc_10 : ((10 : Nat) : Int) = 10 := rfl
theorem frzA_nil (S : St) : frzA S [] = S := rfl
theorem frzA_cons (S : St) (t : Nat) (ts : List Nat) : frzA S (t :: ts) = ⟨S.t, frzGs (fzTs S (t :: ts)) S.o, S.n⟩ := rfl
theorem fzCell_sl (S : St) (o off n sz : Nat) (cap : Option Nat) : fzCell S (.sl o off n sz cap) = match obj S.o o with | some (.arr _ g _) => [g] | _ => [] := rfl
theorem fzCell_c (S : St) (x : C) : fzCell S (.c x) = [] := rfl
theorem fzCell_SL (S : St) (b : Bool) (cap : Option Nat) (n : Nat) (l : List C) : fzCell S (SL b cap n l) = [] := by cases b <;> rfl
theorem fz1_pt (S : St) (o off : Nat) : fz1 S (.pt o off) = match obj S.o o with | some (.box l) => fzCells S l | _ => [] := rfl
theorem fz1_sl (S : St) (o off n sz : Nat) (cap : Option Nat) : fz1 S (.sl o off n sz cap) = fzCell S (.sl o off n sz cap) := rfl
/-- Cells are filled when they are known, no sooner. -/
theorem fill_nil0 (pl : Nat → Option (Nat × Nat)) : fillT pl [] [] = some [] := rfl
theorem fill_nil (pl : Nat → Option (Nat × Nat)) (c : T) (cs : List T) : fillT pl (c :: cs) [] = some (c :: cs) := rfl
theorem fill_cons (pl : Nat → Option (Nat × Nat)) (c : T) (cs : List T) (i : Nat) (x : T) (r : List (Nat × T)) : fillT pl (c :: cs) ((i, x) :: r) =
    (pl i).bind fun p => (cellsOf x).bind fun v => if v.length = p.2 ∧ p.1 + p.2 ≤ (c :: cs).length then fillT pl (splice (c :: cs) p.1 v) r else none := rfl
theorem splice_succ {α : Type} (y : α) (l : List α) (k : Nat) (x : List α) : splice (y :: l) (k + 1) x = y :: splice l k x := by
  unfold splice
  rw [List.take_succ_cons, show k + 1 + x.length = (k + x.length) + 1 by omega, List.drop_succ_cons]; rfl
theorem splice_cons0 {α : Type} (y : α) (l : List α) (z : α) (x : List α) : splice (y :: l) 0 (z :: x) = z :: splice l 0 x := by
  unfold splice
  simp
theorem splice_nil0 {α : Type} (l : List α) : splice l 0 [] = l := by simp [splice]
theorem splice_ints {xs : List Int} {k : Nat} (y : Int) (h : k < xs.length) : splice (ints xs) k [.v (.int .i64 y)] = ints (xs.set k y) := by
  unfold splice ints
  rw [List.map_set, List.set_eq_take_append_cons_drop, if_pos (by simpa using h)]
  simp
/-- The cells of elements that have sz cells each. -/
theorem flat_get {α : Type} {enc : α → List C} {sz : Nat} (he : ∀ a, (enc a).length = sz) : ∀ {l : List α} {i : Nat} {a : α}, l[i]? = some a → ∀ j, j < sz → (l.flatMap enc)[i * sz + j]? = (enc a)[j]?
  | [], i, a, h, _, _ => by simp at h
  | x :: l, 0, a, h, j, hj => by
    simp at h; subst h
    rw [List.flatMap_cons, Nat.zero_mul, Nat.zero_add, List.getElem?_append_left (by rw [he]; exact hj)]
  | x :: l, i + 1, a, h, j, hj => by
    rw [List.flatMap_cons, List.getElem?_append_right (by rw [he, Nat.succ_mul]; omega), he, show (i + 1) * sz + j - sz = i * sz + j by rw [Nat.succ_mul]; omega]
    exact flat_get he (l := l) (by simpa using h) j hj
theorem flat_len {α : Type} {enc : α → List C} {sz : Nat} (he : ∀ a, (enc a).length = sz) (l : List α) : (l.flatMap enc).length = l.length * sz := by
  induction l with
  | nil => simp
  | cons x l ih => rw [List.flatMap_cons, List.length_append, he, ih, List.length_cons, Nat.succ_mul]; omega
theorem cast1 (i : Nat) : ((i + 1 : Nat) : Int) = (i : Int) + 1 := rfl
theorem getD_of {xs : List Int} {i : Nat} {x : Int} (h : xs[i]? = some x) : xs.getD i 0 = x := by rw [List.getD_eq_getElem?_getD, h]; rfl
theorem drop_nil {α : Type} {l : List α} {i : Nat} (h : l.drop i = []) : l.length ≤ i := by simpa using h
end Go.Proofs.YtnbijiopcgfmfaaGreat.Tev
/- Arguments as typed trees; how a law's row comes out of what the evaluator returns. -/
set_option linter.unusedVariables false
namespace Go.Proofs.YtnbijiopcgfmfaaGreat.Tev
open Go Go.RowKit Go.ChangeShapes Go.WideShapes
set_option linter.unusedSectionVars false
set_option linter.unusedSimpArgs false
variable {P : Program} {w : World}
/-- Whatever reads as a value of type t is the cells of something that J tells of. -/
def OpnT {α : Type} (P : Program) (w : World) (t : TypeId) (enc : α → List C) (J : α → Prop) : Prop := Opn P w t fun l => ∃ a, l = enc a ∧ J a
def OpnG {α : Type} (P : Program) (w : World) (fs : List Field) (o sz : Nat) (enc : α → List C) (J : α → Prop) : Prop := OpnF P w fs o sz fun l => ∃ a, l = enc a ∧ J a
theorem opt_int {t : TypeId} (ht : P.underlying t = some (.int .i64)) : OpnT P w t (fun n : Int => [CI n]) (fun n => -9223372036854775808 ≤ n ∧ n ≤ 9223372036854775807) :=
  opn_mono (opn_int ht) fun l ⟨n, h1, h2⟩ => ⟨n, h1, by
    simp only [Lit.wf, Bool.and_eq_true, decide_eq_true_eq] at h2
    have e1 : IntKind.i64.min = -9223372036854775808 := by decide
    have e2 : IntKind.i64.max = 9223372036854775807 := by decide
    rw [e1, e2] at h2; exact h2⟩
theorem opt_bool {t : TypeId} (ht : P.underlying t = some .bool) : OpnT P w t (fun b : Bool => [.v (.bool b)]) (fun _ => True) := opn_mono (opn_bool ht) fun l ⟨b, h⟩ => ⟨b, h, trivial⟩
theorem opt_string {t : TypeId} (ht : P.underlying t = some .string) : OpnT P w t (fun s : ByteArray => [.v (.string s)]) (fun s => s.size ≤ 140737488351232) := opn_mono (opn_string ht) fun l ⟨s, h1, h2⟩ => ⟨s, h1, h2⟩
theorem typed {α : Type} {enc : α → List C} {J : α → Prop} : ∀ (ls : List (List C)), (∀ x ∈ ls, ∃ a, x = enc a ∧ J a) → ∃ as : List α, as.length = ls.length ∧ ls.flatten = as.flatMap enc ∧ ∀ a ∈ as, J a
  | [], _ => ⟨[], rfl, rfl, fun a h => by simp at h⟩
  | x :: ls, h => by
    obtain ⟨a, h1, h2⟩ := h x (by simp)
    obtain ⟨as, h3, h4, h5⟩ := typed ls fun y hy => h y (by simp [hy])
    refine ⟨a :: as, by simp [h3], by rw [List.flatten_cons, List.flatMap_cons, h4, h1], fun b hb => ?_⟩
    rcases List.mem_cons.1 hb with rfl | hb
    · exact h2
    · exact h5 b hb
theorem opt_slice {α : Type} {enc : α → List C} {J : α → Prop} {t e : TypeId} (sz B : Nat) (ht : P.underlying t = some (.slice e)) (he : OpnT P w e enc J) (hc : P.cellsOf e = sz) (hs : 0 < sz) (hB : P.bytesOf e = B) :
    OpnT P w t (fun as : List α => [.s none as.length (as.flatMap enc)]) (fun as => as.length * B ≤ 140737488351232 ∧ ∀ a ∈ as, J a) :=
  opn_mono (opn_slice ht he hc hs hB) fun l ⟨ls, h1, h2, h3⟩ => by
    obtain ⟨as, q1, q2, q3⟩ := typed ls h3
    exact ⟨as, by rw [h1, ← q1, q2], by rw [q1]; exact h2, q3⟩
theorem opg_one {α : Type} {enc : α → List C} {J : α → Prop} {f : Field} {o sz : Nat} (h : OpnT P w f.type enc J) (ho : f.offset = o) (hc : P.cellsOf f.type = sz) : OpnG P w [f] o sz enc J := opnF_one h ho hc
theorem opg_cons {α β : Type} {enc : α → List C} {J : α → Prop} {enc2 : β → List C} {J2 : β → Prop} {f : Field} {fs : List Field} {o sz sz2 : Nat} (h : OpnT P w f.type enc J) (ho : f.offset = o) (hc : P.cellsOf f.type = sz) (h2 : OpnG P w fs (o + sz) sz2 enc2 J2) :
    OpnG P w (f :: fs) o (sz + sz2) (fun x : α × β => enc x.1 ++ enc2 x.2) (fun x => J x.1 ∧ J2 x.2) := by
  intro H e fuel cs xs hl hx hz
  obtain ⟨l, r, l1, l2, rfl, ⟨a, h1, h3⟩, b, h4, h5⟩ := opnF_cons h ho hc h2 H e fuel cs xs hl hx hz
  exact ⟨_, r, (a, b), by rw [h1, h4], h3, h5⟩
theorem opt_struct {α : Type} {enc : α → List C} {J : α → Prop} {t : TypeId} {fs : Array Field} (sz : Nat) (ht : P.underlying t = some (.struct fs)) (h : OpnG P w fs.toList 0 sz enc J) (hc : P.cellsOf t = sz) : OpnT P w t enc J := opn_struct ht h hc
theorem argt_cells {α : Type} {encc : α → List C} {J : α → Prop} {H : Type} {enc : TypeId × Value → H} {t : TypeId} (h : OpnT P w t encc J) {v : Value} {x : DataW H} {ps : List MemPlace} {ts : List TypeId} {ds : List (DataW H)} {j : Nat}
    (hr : DataW.Trod enc P w 0 (fun _ => true) true t v x ps) (hsz : (DataW.weightsEach P ts ds).all (· ≤ reachBytes) = true) (ht : ts[j]? = some t) (hd : ds[j]? = some x) : ∃ a : α, RTs (Old w) ((encc a).map T.c) v.cells.toList ∧ J a := by
  obtain ⟨l, h1, a, h2, h3⟩ := arg_cells h hr hsz ht hd
  exact ⟨a, by rw [← h2]; exact h1, h3⟩
theorem flat_ints (xs : List Int) : (xs.flatMap fun n => [CI n]) = ints xs := by
  induction xs with
  | nil => rfl
  | cons x xs ih => rw [List.flatMap_cons, ih]; rfl
theorem rts_cons {K : Ctx} {x : T} {l : List T} {u : Value} {us : List Value} (h1 : RT K x u) (h2 : RTs K l us) : RTs K (x :: l) (u :: us) := by simp only [RTs]; exact ⟨u, us, rfl, h1, h2⟩
theorem rts_nil {K : Ctx} : RTs K [] [] := by simp only [RTs]
/-- What a law that returns true comes to. -/
theorem row_calls {P : Program} {cl : FuncId → List T → Option R} (hcl : CallOK P cl) {f : FuncId} {ts : List T} {us : List Value} {w : World} (h : cl f ts = some (B true, [])) (hr : RTs (Old w) ts us) {fn : Func} (hf : P.funcs[f]? = some fn) (hb : fn.body.isNone = false) :
    Calls P f us.toArray w fun e w' => e = .returned (.bool true) ∧ Below w.heap.size w w' := by
  rcases hcl f ts _ h with hq | ⟨⟨fn', h1, h2⟩, _⟩
  rotate_left
  · rw [hf] at h1
    obtain rfl := Option.some.inj h1
    rw [hb] at h2
    cases h2
  refine (hq.2 w (fun b => b < w.heap.size) us (fun _ h => h) hr).mono fun e w' ⟨v, h1, h2, F', pl, _, _, h3, _⟩ => ?_
  have q := h3 0 0 (fun _ => none) (fun k hk => by simp at hk)
  simp only [lift, liftA, liftC, RT, RC] at q
  rw [h1, q.1]
  exact ⟨rfl, h2⟩
end Go.Proofs.YtnbijiopcgfmfaaGreat.Tev
