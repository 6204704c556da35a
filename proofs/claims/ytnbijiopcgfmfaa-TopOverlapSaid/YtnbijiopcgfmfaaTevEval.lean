/- The evaluator as a machine over a list of what is still to be done: the equations by which it is run on code with letters in it. -/
import Derived.Test.YtnbijiopcgfmfaaTev
namespace Go.Proofs.Ytnbijiopcgfmfaa.Tev
open Go Go.RowKit
set_option linter.unusedSectionVars false
set_option linter.unusedVariables false
set_option linter.unusedSimpArgs false

inductive It where
  | code (c : Code)
  | ops (dr : Bool) (all : Array Oper) (l : List Oper)
  | blk (id : Nat)

section
variable (E : Env) (O : Ora) (f : FuncId)
def exec : Ex → List It → St → Option (Ex × St)
  | e, [], S => some (e, S)
  | .nor, .code c :: k, S => match te E O f c S with | none => none | some (e, S) => exec e k S
  | .nor, .ops dr all l :: k, S => match tops E O.call dr all l S with | none => none | some S => exec .nor k S
  | .nor, .blk _ :: k, S => exec .nor k S
  | .exit id, .blk i :: k, S => if id = i then exec .nor k S else exec (.exit id) k S
  | e, _ :: k, S => exec e k S
/-- The value of an operation and what is done with it. -/
def put1 (r : Option (T × List Ob × List Nat)) (d : Option Nat) (dr : Bool) (all : Array Oper) (l : List Oper) (k : List It) (S : St) : Option (Ex × St) :=
  match r with
  | none => none
  | some (x, nw, fz) => if frOk dr fz = true then exec E O f .nor (.ops dr all l :: k) ((S.add fz nw).putO d x) else none
def putW (r : Option (List (Nat × Ob))) (d : Option Nat) (dr : Bool) (all : Array Oper) (l : List Oper) (k : List It) (S : St) : Option (Ex × St) :=
  match r with
  | none => none
  | some os => exec E O f .nor (.ops dr all l :: k) (St.putO { S with o := os } d .und)
def guard1 (x : T) (g : Nat) (want : Bool) (o : Oper) (dr : Bool) (all : Array Oper) (l : List Oper) (k : List It) (S : St) : Option (Ex × St) :=
  match x with
  | .c (.v (.bool b)) => if b = true
      then (if want = true then exec E O f .nor (.ops dr all ({ o with guard := none } :: l) :: k) (S.put g (B true)) else exec E O f .nor (.ops dr all l :: k) ((S.put g (B true)).putO o.dst .und))
      else (if want = true then exec E O f .nor (.ops dr all l :: k) ((S.put g (B false)).putO o.dst .und) else exec E O f .nor (.ops dr all ({ o with guard := none } :: l) :: k) (S.put g (B false)))
  | .und => exec E O f .nor (.ops dr all l :: k) (S.putO o.dst .und)
  | _ => none
def cond1 (x : T) (c : Operand) (a b : Code) (k : List It) (S : St) : Option (Ex × St) :=
  match x with
  | .c (.v (.bool q)) =>
    match c with
    | .tmp t => if q = true then exec E O f .nor (.code a :: k) (S.put t (B true)) else exec E O f .nor (.code b :: k) (S.put t (B false))
    | _ => if q = true then exec E O f .nor (.code a :: k) S else exec E O f .nor (.code b :: k) S
  | _ => none
def loop1 (r : Option (Ex × St)) (k : List It) : Option (Ex × St) :=
  match r with
  | none => none
  | some (e, S) => exec E O f e k S

variable {E O f}
theorem exec_ret (x : It) (k : List It) (S : St) : exec E O f .ret (x :: k) S = exec E O f .ret k S := by cases x <;> simp [exec]
theorem exec_ret_nil (S : St) : exec E O f .ret [] S = some (.ret, S) := rfl
theorem exec_nil (e : Ex) (S : St) : exec E O f e [] S = some (e, S) := by cases e <;> rfl
theorem ex_skip (k : List It) (S : St) : exec E O f .nor (.code .skip :: k) S = exec E O f .nor k S := by simp [exec, te]
theorem ex_ret (k : List It) (S : St) : exec E O f .nor (.code .ret :: k) S = exec E O f .ret k S := by simp [exec, te]
theorem ex_exit (id : Nat) (k : List It) (S : St) : exec E O f .nor (.code (.exit id) :: k) S = exec E O f (.exit id) k S := by simp [exec, te]
theorem ex_region (id : Nat) (ops : Array Oper) (dr : Bool) (k : List It) (S : St) : exec E O f .nor (.code (.region id ops dr) :: k) S = exec E O f .nor (.ops dr ops ops.toList :: k) (frzA S (E.fz f id)) := by
  simp only [exec, te]
  cases tops E O.call dr ops ops.toList (frzA S (E.fz f id)) <;> rfl
theorem ex_seq (a b : Code) (k : List It) (S : St) : exec E O f .nor (.code (.seq a b) :: k) S = exec E O f .nor (.code a :: .code b :: k) S := by
  simp only [exec, te]
  cases h : te E O f a S with
  | none => rfl
  | some r => obtain ⟨e, S'⟩ := r; cases e <;> simp [exec]
theorem ex_cond (c : Operand) (a b : Code) (k : List It) (S : St) : exec E O f .nor (.code (.cond c a b) :: k) S = cond1 E O f (S.ev c) c a b k S := by
  simp only [exec, te, cond1]
  cases S.ev c with
  | c x =>
    cases x with
    | v v =>
      cases v with
      | bool q => cases c <;> cases q <;> rfl
      | _ => rfl
    | s => rfl
  | _ => rfl
theorem ex_block (id : Nat) (b : Code) (k : List It) (S : St) : exec E O f .nor (.code (.block id b) :: k) S = exec E O f .nor (.code b :: .blk id :: k) S := by
  simp only [exec, te]
  cases h : te E O f b S with
  | none => rfl
  | some r =>
    obtain ⟨e, S'⟩ := r
    cases e with
    | nor => simp [exec]
    | ret => simp [exec]
    | exit i => by_cases hi : i = id <;> simp [exec, hi]
theorem ex_loop (b : Code) (k : List It) (S : St) : exec E O f .nor (.code (.loop b) :: k) S = loop1 E O f (O.loop f (firstId b) S) k := by
  simp only [exec, te, loop1]
theorem loop1_none (k : List It) : loop1 E O f none k = none := rfl
theorem loop1_some (e : Ex) (S : St) (k : List It) : loop1 E O f (some (e, S)) k = exec E O f e k S := rfl
theorem ex_blk (id : Nat) (k : List It) (S : St) : exec E O f .nor (.blk id :: k) S = exec E O f .nor k S := by simp [exec]
theorem ex_leave (id i : Nat) (k : List It) (S : St) : exec E O f (.exit id) (.blk i :: k) S = if id = i then exec E O f .nor k S else exec E O f (.exit id) k S := by simp [exec]
theorem ex_pass_code (id : Nat) (c : Code) (k : List It) (S : St) : exec E O f (.exit id) (.code c :: k) S = exec E O f (.exit id) k S := by simp [exec]
theorem ex_pass_ops (id : Nat) (dr : Bool) (all : Array Oper) (l : List Oper) (k : List It) (S : St) : exec E O f (.exit id) (.ops dr all l :: k) S = exec E O f (.exit id) k S := by simp [exec]
theorem ex_ops_nil (dr : Bool) (all : Array Oper) (k : List It) (S : St) : exec E O f .nor (.ops dr all [] :: k) S = exec E O f .nor k S := by simp [exec, tops]
theorem ex_op (d : Option Nat) (op : Op) (ty : TypeId) (pos : String) (af : Array Edge) (dr : Bool) (all : Array Oper) (l : List Oper) (k : List It) (S : St) :
    exec E O f .nor (.ops dr all (⟨d, op, ty, pos, af, none⟩ :: l) :: k) S = if isW op = true then putW E O f (opW E S ⟨d, op, ty, pos, af, none⟩) d dr all l k S else put1 E O f (opN E O.call S ⟨d, op, ty, pos, af, none⟩) d dr all l k S := by
  simp only [exec, tops, opG, opA]
  cases hw : isW op with
  | true =>
    simp only [putW, cond_true, if_true]
    cases opW E S ⟨d, op, ty, pos, af, none⟩ with
    | none => rfl
    | some os => simp [exec]
  | false =>
    simp only [put1, cond_false, Bool.false_eq_true, if_false]
    cases opN E O.call S ⟨d, op, ty, pos, af, none⟩ with
    | none => rfl
    | some r =>
      obtain ⟨x, nw, fz⟩ := r
      cases hf : frOk dr fz <;> simp [hf, exec]
theorem put1_none (d : Option Nat) (dr : Bool) (all : Array Oper) (l : List Oper) (k : List It) (S : St) : put1 E O f none d dr all l k S = none := rfl
theorem put1_val (x : T) (d : Nat) (dr : Bool) (all : Array Oper) (l : List Oper) (k : List It) (S : St) :
    put1 E O f (some (x, [], [])) (some d) dr all l k S = exec E O f .nor (.ops dr all l :: k) ⟨(d, x) :: S.t, S.o, S.n⟩ := by
  simp [put1, St.add, addO, frzGs, St.putO, St.put, frOk]
theorem put1_new (x : T) (o : Ob) (os : List Ob) (d : Nat) (dr : Bool) (all : Array Oper) (l : List Oper) (k : List It) (S : St) :
    put1 E O f (some (x, o :: os, [])) (some d) dr all l k S = exec E O f .nor (.ops dr all l :: k) ⟨(d, x) :: S.t, addO S.n (o :: os) ++ S.o, S.n + (o :: os).length⟩ := by
  simp [put1, St.add, frzGs, St.putO, St.put, frOk]
theorem put1_frz (x : T) (os : List Ob) (g : Nat) (gs : List Nat) (d : Nat) (all : Array Oper) (l : List Oper) (k : List It) (S : St) :
    put1 E O f (some (x, os, g :: gs)) (some d) false all l k S = exec E O f .nor (.ops false all l :: k) ⟨(d, x) :: S.t, addO S.n os ++ frzGs (g :: gs) S.o, S.n + os.length⟩ := by
  simp [put1, St.add, St.putO, St.put, frOk]
theorem put1_drop (x : T) (os : List Ob) (dr : Bool) (all : Array Oper) (l : List Oper) (k : List It) (S : St) :
    put1 E O f (some (x, os, [])) none dr all l k S = exec E O f .nor (.ops dr all l :: k) ⟨S.t, addO S.n os ++ S.o, S.n + os.length⟩ := by
  simp [put1, St.add, frzGs, St.putO, frOk]
theorem putW_none (d : Option Nat) (dr : Bool) (all : Array Oper) (l : List Oper) (k : List It) (S : St) : putW E O f none d dr all l k S = none := rfl
theorem putW_some (os : List (Nat × Ob)) (dr : Bool) (all : Array Oper) (l : List Oper) (k : List It) (S : St) :
    putW E O f (some os) none dr all l k S = exec E O f .nor (.ops dr all l :: k) ⟨S.t, os, S.n⟩ := rfl
theorem putW_dst (os : List (Nat × Ob)) (d : Nat) (dr : Bool) (all : Array Oper) (l : List Oper) (k : List It) (S : St) :
    putW E O f (some os) (some d) dr all l k S = exec E O f .nor (.ops dr all l :: k) ⟨(d, .und) :: S.t, os, S.n⟩ := rfl
theorem opA_guard (cl : FuncId → List T → Option R) (dr : Bool) (S : St) (d : Option Nat) (op : Op) (ty : TypeId) (pos : String) (af : Array Edge) (g h : Option (Nat × Bool)) :
    opA E cl dr S ⟨d, op, ty, pos, af, g⟩ = opA E cl dr S ⟨d, op, ty, pos, af, h⟩ := by cases op <;> rfl
theorem ex_guard (d : Option Nat) (op : Op) (ty : TypeId) (pos : String) (af : Array Edge) (g : Nat) (want : Bool) (dr : Bool) (all : Array Oper) (l : List Oper) (k : List It) (S : St) :
    exec E O f .nor (.ops dr all (⟨d, op, ty, pos, af, some (g, want)⟩ :: l) :: k) S =
      match gtmp all g with | none => none | some t => guard1 E O f (get S.t t) t want ⟨d, op, ty, pos, af, some (g, want)⟩ dr all l k S := by
  simp only [exec, tops, opG]
  cases gtmp all g with
  | none => rfl
  | some t =>
    simp only [guard1]
    cases get S.t t with
    | c x =>
      cases x with
      | v v =>
        cases v with
        | bool b => cases b <;> cases want <;> simp [exec, tops, opG, opA_guard _ _ _ _ _ _ _ _ (some (g, _)) none]
        | _ => rfl
      | s => rfl
    | und => simp [exec]
    | _ => rfl
theorem guard1_und (g : Nat) (want : Bool) (d : Option Nat) (op : Op) (ty : TypeId) (pos : String) (af : Array Edge) (q : Option (Nat × Bool)) (dr : Bool) (all : Array Oper) (l : List Oper) (k : List It) (S : St) :
    guard1 E O f .und g want ⟨d, op, ty, pos, af, q⟩ dr all l k S = exec E O f .nor (.ops dr all l :: k) (S.putO d .und) := rfl
theorem guard1_bool (b : Bool) (g : Nat) (want : Bool) (d : Option Nat) (op : Op) (ty : TypeId) (pos : String) (af : Array Edge) (q : Option (Nat × Bool)) (dr : Bool) (all : Array Oper) (l : List Oper) (k : List It) (S : St) :
    guard1 E O f (.c (.v (.bool b))) g want ⟨d, op, ty, pos, af, q⟩ dr all l k S = if b = true
      then (if want = true then exec E O f .nor (.ops dr all (⟨d, op, ty, pos, af, none⟩ :: l) :: k) (S.put g (B true)) else exec E O f .nor (.ops dr all l :: k) ((S.put g (B true)).putO d .und))
      else (if want = true then exec E O f .nor (.ops dr all l :: k) ((S.put g (B false)).putO d .und) else exec E O f .nor (.ops dr all (⟨d, op, ty, pos, af, none⟩ :: l) :: k) (S.put g (B false))) := rfl
theorem cond1_tmp (q : Bool) (t : Nat) (a b : Code) (k : List It) (S : St) :
    cond1 E O f (.c (.v (.bool q))) (.tmp t) a b k S = if q = true then exec E O f .nor (.code a :: k) (S.put t (B true)) else exec E O f .nor (.code b :: k) (S.put t (B false)) := rfl
theorem cond1_const (q : Bool) (x : Value) (a b : Code) (k : List It) (S : St) :
    cond1 E O f (.c (.v (.bool q))) (.const x) a b k S = if q = true then exec E O f .nor (.code a :: k) S else exec E O f .nor (.code b :: k) S := rfl
theorem put1_ite (p : Prop) [Decidable p] (a b : Option (T × List Ob × List Nat)) (d : Option Nat) (dr : Bool) (all : Array Oper) (l : List Oper) (k : List It) (S : St) :
    put1 E O f (if p then a else b) d dr all l k S = if p then put1 E O f a d dr all l k S else put1 E O f b d dr all l k S := by split <;> rfl
theorem put1_cond (p : Bool) (a b : Option (T × List Ob × List Nat)) (d : Option Nat) (dr : Bool) (all : Array Oper) (l : List Oper) (k : List It) (S : St) :
    put1 E O f (bif p then a else b) d dr all l k S = bif p then put1 E O f a d dr all l k S else put1 E O f b d dr all l k S := by cases p <;> rfl
theorem putW_ite (p : Prop) [Decidable p] (a b : Option (List (Nat × Ob))) (d : Option Nat) (dr : Bool) (all : Array Oper) (l : List Oper) (k : List It) (S : St) :
    putW E O f (if p then a else b) d dr all l k S = if p then putW E O f a d dr all l k S else putW E O f b d dr all l k S := by split <;> rfl

/-- The end of a function. -/
def fin (P : Program) (rs : List ResultVar) (ts : List TypeId) (r : Option (Ex × St)) : Option R :=
  match r with
  | some (.nor, S) | some (.ret, S) => retT P rs ts S
  | _ => none
theorem fin_none (P : Program) (rs : List ResultVar) (ts : List TypeId) : fin P rs ts none = none := rfl
theorem fin_ret (P : Program) (rs : List ResultVar) (ts : List TypeId) (S : St) : fin P rs ts (some (.ret, S)) = retT P rs ts S := rfl
theorem fin_nor (P : Program) (rs : List ResultVar) (ts : List TypeId) (S : St) : fin P rs ts (some (.nor, S)) = retT P rs ts S := rfl
theorem fin_ite (P : Program) (rs : List ResultVar) (ts : List TypeId) (p : Prop) [Decidable p] (a b : Option (Ex × St)) : fin P rs ts (if p then a else b) = if p then fin P rs ts a else fin P rs ts b := by split <;> rfl
theorem fin_cond (P : Program) (rs : List ResultVar) (ts : List TypeId) (p : Bool) (a b : Option (Ex × St)) : fin P rs ts (bif p then a else b) = bif p then fin P rs ts a else fin P rs ts b := by cases p <;> rfl
theorem run_eq {fn : Func} {b : Code} (hb : fn.body = some b) (xs : List T) (hx : xs.length ≤ fn.ntmps) (hk : okFunc fn = true) :
    runF E O f fn xs = fin E.P fn.results.toList fn.resultTypes.toList (exec E O f .nor [.code b] ⟨params 0 xs, [], 0⟩) := by
  simp only [runF, hb, exec, if_pos (show xs.length ≤ fn.ntmps ∧ okFunc fn = true from ⟨hx, hk⟩)]
  cases te E O f b ⟨params 0 xs, [], 0⟩ with
  | none => rfl
  | some r => obtain ⟨e, S⟩ := r; cases e <;> rfl
end

section
variable {E : Env} {O : Ora} {f : FuncId}
/-- The end of a round. -/
def endL (E : Env) (f id : Nat) (again : St → Option (Ex × St)) (r : Option (Ex × St)) : Option (Ex × St) :=
  match r with
  | some (.nor, S) => again S
  | some (.exit i, S) => (focus (E.kp f id).2 S).map fun S => (.exit i, S)
  | some (.ret, S) => (focus (E.kr f) S).map fun S => (.ret, S)
  | none => none
theorem endL_none (id : Nat) (again : St → Option (Ex × St)) : endL E f id again none = none := rfl
theorem endL_nor (id : Nat) (again : St → Option (Ex × St)) (S : St) : endL E f id again (some (.nor, S)) = again S := rfl
theorem endL_ret (id : Nat) (again : St → Option (Ex × St)) (S : St) : endL E f id again (some (.ret, S)) = (focus (E.kr f) S).map fun S => (.ret, S) := rfl
theorem endL_exit (id i : Nat) (again : St → Option (Ex × St)) (S : St) : endL E f id again (some (.exit i, S)) = (focus (E.kp f id).2 S).map fun S => (.exit i, S) := rfl
theorem endL_ite (id : Nat) (again : St → Option (Ex × St)) (p : Prop) [Decidable p] (a b : Option (Ex × St)) : endL E f id again (if p then a else b) = if p then endL E f id again a else endL E f id again b := by split <;> rfl
theorem runL_eq {id : Nat} {b : Code} {again : St → Option (Ex × St)} {S S0 : St} (hb : ((E.P.funcs[f]?).bind fun fn => fn.body.bind (findLoop id)) = some b) (hf : focus (E.kp f id).1 (prep (E.own f id) S) = some S0) :
    runL E O f id again S = endL E f id again (exec E O f .nor [.code b] S0) := by
  simp only [runL, hf, hb, Option.bind_some, exec]
  cases te E O f b S0 with
  | none => rfl
  | some r => obtain ⟨e, S⟩ := r; cases e <;> rfl
end
/-! Numbers. -/
section
variable (P : Program) (xt : TypeId) (x y : Operand) (a b : Int) (k : IntKind)
theorem bin_add : bin2 P .add xt x y (.c (.v (.int k a))) (.c (.v (.int k b))) = some (.c (.v (.int k (k.wrap (a + b))))) := by
  simp [bin2, eqGuard, peel, binOp, Op.intArith, pure, bind, Sem.bind, ofV, flat]
theorem bin_sub : bin2 P .sub xt x y (.c (.v (.int k a))) (.c (.v (.int k b))) = some (.c (.v (.int k (k.wrap (a - b))))) := by
  simp [bin2, eqGuard, peel, binOp, Op.intArith, pure, bind, Sem.bind, ofV, flat]
theorem bin_mul : bin2 P .mul xt x y (.c (.v (.int k a))) (.c (.v (.int k b))) = some (.c (.v (.int k (k.wrap (a * b))))) := by
  simp [bin2, eqGuard, peel, binOp, Op.intArith, pure, bind, Sem.bind, ofV, flat]
theorem bin_eql : bin2 P .eql xt x y (.c (.v (.int k a))) (.c (.v (.int k b))) = some (B (decide (a = b))) := by
  simp [bin2, eqGuard, peel, binOp, Op.intCmp, pure, bind, Sem.bind, ofV, flat]; rfl
theorem bin_neq : bin2 P .neq xt x y (.c (.v (.int k a))) (.c (.v (.int k b))) = some (B (!decide (a = b))) := by
  simp [bin2, eqGuard, peel, binOp, Op.intCmp, pure, bind, Sem.bind, ofV, flat]; rfl
theorem bin_lss : bin2 P .lss xt x y (.c (.v (.int k a))) (.c (.v (.int k b))) = some (B (decide (a < b))) := by
  simp [bin2, eqGuard, peel, binOp, Op.intCmp, pure, bind, Sem.bind, ofV, flat]
theorem bin_leq : bin2 P .leq xt x y (.c (.v (.int k a))) (.c (.v (.int k b))) = some (B (decide (a ≤ b))) := by
  simp [bin2, eqGuard, peel, binOp, Op.intCmp, pure, bind, Sem.bind, ofV, flat]
theorem bin_gtr : bin2 P .gtr xt x y (.c (.v (.int k a))) (.c (.v (.int k b))) = some (B (decide (b < a))) := by
  simp [bin2, eqGuard, peel, binOp, Op.intCmp, pure, bind, Sem.bind, ofV, flat]
theorem bin_geq : bin2 P .geq xt x y (.c (.v (.int k a))) (.c (.v (.int k b))) = some (B (decide (b ≤ a))) := by
  simp [bin2, eqGuard, peel, binOp, Op.intCmp, pure, bind, Sem.bind, ofV, flat]
theorem bin_quo : bin2 P .quo xt x y (.c (.v (.int k a))) (.c (.v (.int k b))) = if b = 0 then none else some (.c (.v (.int k (k.wrap (Int.tdiv a b))))) := by
  by_cases h : b = 0
  · simp [bin2, eqGuard, peel, binOp, Op.intDiv, pure, bind, Sem.bind, ofV, flat, h, runtimePanic, program, goPanic]
  · simp [bin2, eqGuard, peel, binOp, Op.intDiv, pure, bind, Sem.bind, ofV, flat, h]
theorem bin_rem : bin2 P .rem xt x y (.c (.v (.int k a))) (.c (.v (.int k b))) = if b = 0 then none else some (.c (.v (.int k (Int.tmod a b)))) := by
  by_cases h : b = 0
  · simp [bin2, eqGuard, peel, binOp, Op.intDiv, pure, bind, Sem.bind, ofV, flat, h, runtimePanic, program, goPanic]
  · simp [bin2, eqGuard, peel, binOp, Op.intDiv, pure, bind, Sem.bind, ofV, flat, h]
theorem un_neg : un1 P .neg (.c (.v (.int k a))) = some (.c (.v (.int k (k.wrap (0 - a))))) := by
  simp [un1, peel, Op.unary, Op.intArith, pure, ofV, flat]
theorem un_not (q : Bool) : un1 P .not (.c (.v (.bool q))) = some (B (!q)) := by
  simp [un1, peel, Op.unary, pure, ofV, flat]
end
/-- Cells of whole numbers. -/
def ints (xs : List Int) : List C := xs.map fun x => .v (.int .i64 x)
theorem ints_at (xs : List Int) (k : Nat) : ((ints xs)[k]?).map T.c = if k < xs.length then some (I (xs.getD k 0)) else none := by
  simp only [ints, List.getElem?_map, List.getD_eq_getElem?_getD]
  by_cases h : k < xs.length
  · simp [h]
  · simp [h, List.getElem?_eq_none (Nat.le_of_not_lt h)]
theorem toL {α : Type} (l : List α) : l.toArray.toList = l := rfl
theorem bind_some {α β : Type} (a : α) (k : α → Option β) : (some a).bind k = k a := rfl
theorem map_some {α β : Type} (a : α) (k : α → β) : (some a).map k = some (k a) := rfl
theorem bind_ite {α β : Type} (p : Prop) [Decidable p] (a b : Option α) (k : α → Option β) : (if p then a else b).bind k = if p then a.bind k else b.bind k := by split <;> rfl
theorem map_ite {α β : Type} (p : Prop) [Decidable p] (a b : Option α) (k : α → β) : (if p then a else b).map k = if p then a.map k else b.map k := by split <;> rfl
theorem bind_none {α β : Type} (k : α → Option β) : (none : Option α).bind k = none := rfl
theorem map_none {α β : Type} (k : α → β) : (none : Option α).map k = none := rfl
theorem v0_some (x : T) : v0 (some x) = some (x, [], []) := rfl
theorem v0_none : v0 none = none := rfl
theorem v0_ite (p : Prop) [Decidable p] (a b : Option T) : v0 (if p then a else b) = if p then v0 a else v0 b := by split <;> rfl
theorem v0_cond (p : Bool) (a b : Option T) : v0 (bif p then a else b) = bif p then v0 a else v0 b := by cases p <;> rfl
theorem v1_some (x : T) (os : List Ob) : v1 (some (x, os)) = some (x, os, []) := rfl
theorem v1_none : v1 none = none := rfl
theorem v1_ite (p : Prop) [Decidable p] (a b : Option (T × List Ob)) : v1 (if p then a else b) = if p then v1 a else v1 b := by split <;> rfl
end Go.Proofs.Ytnbijiopcgfmfaa.Tev
