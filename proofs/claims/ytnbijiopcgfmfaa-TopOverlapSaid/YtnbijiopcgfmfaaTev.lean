/- An evaluator of Go code over trees: slices that are only read are lists; what a call makes for itself lies in a small store of its own. Definitions alone; TevSound shows that what it returns is what the program returns. -/
import Derived.Orders
import Derived.Below
import Derived.KernelRfl
import Derived.ChangeKeysEq
namespace Go.Proofs.Ytnbijiopcgfmfaa.Tev
open Go Go.RowKit
set_option linter.unusedSectionVars false
set_option linter.unusedVariables false
set_option linter.unusedSimpArgs false

/-- What may lie in a cell that is only read: a number, a bool, a string; a slice with its cells. -/
inductive C where
  | v (x : Value)
  | s (cap : Option Nat) (n : Nat) (l : List C)

/-- What may lie in a variable that is only read. -/
inductive U where
  | c (x : C)
  | junk
  | tmp (cap : Option Nat) (n : Nat) (l : List C)
  | rp (p : Bool) (l : List C) (off : Nat)
  | ms (es : List (Value × C × Nat))
/-- What a temporary holds. -/
inductive T where
  | c (x : C)
  | und
  | junk
  | agg (l : List T)
  | tup (l : List T)
  | tmp (cap : Option Nat) (n : Nat) (l : List C)
  | sl (o off n sz : Nat) (cap : Option Nat)
  | pt (o off : Nat)
  | rp (p : Bool) (l : List C) (off : Nat)
  | rb (l : List U) (off : Nat)
  | fn (f : FuncId) (l : List T)
  | mp (o : Nat)
  | ms (es : List (Value × C × Nat))

def U.toT : U → T
  | .c x => .c x
  | .junk => .junk
  | .tmp cap n l => .tmp cap n l
  | .rp p l off => .rp p l off
  | .ms es => .ms es
/-- What lies in the store: a variable, a row with its group and its age in it, a row that nobody writes any more, a map. -/
inductive Ob where
  | box (l : List T)
  | arr (l : List C) (g gen : Nat)
  | fz (l : List C)
  | mp (es : List (Value × C × Nat)) (clock : Nat)
  | dead

structure St where
  t : List (Nat × T)
  o : List (Nat × Ob)
  n : Nat

abbrev R := T × List (List C)
abbrev Keep := List (Nat × Bool)

inductive Ex where
  | nor
  | exit (id : Nat)
  | ret

structure Env where
  P : Program
  kp : FuncId → Nat → Keep × Keep
  own : FuncId → Nat → List (Nat × Option Nat × Nat)
  kr : FuncId → Keep
  fz : FuncId → Nat → List Nat   -- what is not written any more, ahead of a region

structure Ora where
  call : FuncId → List T → Option R
  loop : FuncId → Nat → St → Option (Ex × St)

abbrev CI (n : Int) : C := .v (.int .i64 n)
abbrev I (n : Int) : T := .c (.v (.int .i64 n))
abbrev B (b : Bool) : T := .c (.v (.bool b))

def get : List (Nat × T) → Nat → T
  | [], _ => .junk
  | (k, x) :: r, i => if k = i then x else get r i
def obj : List (Nat × Ob) → Nat → Option Ob
  | [], _ => none
  | (k, x) :: r, i => if k = i then some x else obj r i
def setO (o : Nat) (x : Ob) : List (Nat × Ob) → List (Nat × Ob)
  | [] => []
  | (k, y) :: r => if k = o then (k, x) :: setO o x r else (k, y) :: setO o x r
/-- What else is in group g goes. -/
def kill1 (g o k : Nat) : Ob → Ob
  | .arr l g' e => if g' = g ∧ k ≠ o then .dead else .arr l g' e
  | x => x
def killG (g o : Nat) : List (Nat × Ob) → List (Nat × Ob)
  | [] => []
  | (k, x) :: r => (k, kill1 g o k x) :: killG g o r
def frz1 (g : Nat) : Ob → Ob
  | .arr l g' e => if g' = g then .fz l else .arr l g' e
  | x => x
def frzG (g : Nat) : List (Nat × Ob) → List (Nat × Ob)
  | [] => []
  | (k, x) :: r => (k, frz1 g x) :: frzG g r
def frzGs : List Nat → List (Nat × Ob) → List (Nat × Ob)
  | [], l => l
  | g :: r, l => frzGs r (frzG g l)
/-- Nothing of group g is older in the row than gen. -/
def tipOk (g gen : Nat) : List (Nat × Ob) → Bool
  | [] => true
  | (_, .arr _ g' e) :: r => (if g' = g then decide (e ≤ gen) else true) && tipOk g gen r
  | _ :: r => tipOk g gen r
def addO (n : Nat) : List Ob → List (Nat × Ob)
  | [] => []
  | x :: r => (n, x) :: addO (n + 1) r

def St.put (S : St) (d : Nat) (x : T) : St := { S with t := (d, x) :: S.t }
def St.putO (S : St) : Option Nat → T → St
  | none, _ => S
  | some d, x => S.put d x
def St.add (S : St) (fz : List Nat) (nw : List Ob) : St := { S with o := addO S.n nw ++ frzGs fz S.o, n := S.n + nw.length }

/-- Rows that are not written any more from here on: those that temporaries reach. -/
def fzCell (S : St) : T → List Nat
  | .sl o _ _ _ _ => match obj S.o o with | some (.arr _ g _) => [g] | _ => []
  | _ => []
def fzCells (S : St) : List T → List Nat
  | [] => []
  | x :: l => fzCell S x ++ fzCells S l
def fz1 (S : St) : T → List Nat
  | .pt o _ => match obj S.o o with | some (.box l) => fzCells S l | _ => []
  | x => fzCell S x
def fzTs (S : St) : List Nat → List Nat
  | [] => []
  | t :: ts => fz1 S (get S.t t) ++ fzTs S ts
def frzA (S : St) : List Nat → St
  | [] => S
  | t :: ts => ⟨S.t, frzGs (fzTs S (t :: ts)) S.o, S.n⟩

def flat : Value → Bool
  | .int .. | .bool _ | .string _ | .float .. => true
  | _ => false
def cellT : Value → T
  | .slice none 0 0 => .c (.s (some 0) 0 [])
  | .int k n => .c (.v (.int k n))
  | .bool b => .c (.v (.bool b))
  | .string s => .c (.v (.string s))
  | .float k b => .c (.v (.float k b))
  | _ => .junk
def constT : Value → T
  | .agg cs => .agg (cs.toList.map cellT)
  | v => cellT v
def St.ev (S : St) : Operand → T
  | .tmp t => get S.t t
  | .const v => constT v
  | .func f => .fn f []
  | .global _ => .junk

/-- The semantics of an operation that touches nothing but numbers. -/
def peel (P : Program) {α : Type} : Sem α → Option α
  | .pure a => some a
  | .program k => peel P (k P)
  | .mark _ k => peel P k
  | _ => none

def T.toV : T → Option Value
  | .c (.v x) => some x
  | _ => none
def ofV (v : Value) : Option T := if flat v then some (.c (.v v)) else none

def szOf (P : Program) (t : TypeId) : Option Nat := (P.info? t).map (·.size)
def bytesOf (P : Program) (t : TypeId) : Option Nat := (P.info? t).map (·.bytes)
def zeroOf (P : Program) (t : TypeId) : Option (List T) := (P.info? t).bind fun i => i.zero.map fun v => v.cells.toList.map cellT
def aggOf (P : Program) (t : TypeId) : Option Bool :=
  match P.underlying t with
  | some (.struct _) | some (.array _ _) => some true
  | some _ => some false
  | none => none
def elemOf (P : Program) (t : TypeId) : Option TypeId := match P.underlying t with | some (.slice e) => some e | _ => none
def fieldOf (P : Program) (t : TypeId) (i : Nat) : Option (Nat × TypeId) := match P.underlying t with | some (.struct fs) => (fs[i]?).map fun f => (f.offset, f.type) | _ => none
/-- Where the parts of a struct or an array lie, and how many cells they have. -/
inductive Pl where
  | st (l : List (Nat × Nat))
  | ar (sz : Nat)
def mapO {α β : Type} (f : α → Option β) : List α → Option (List β)
  | [] => some []
  | x :: r => (f x).bind fun y => (mapO f r).map fun z => y :: z
def placesOf (P : Program) (t : TypeId) : Option Pl :=
  match P.underlying t with
  | some (.struct fs) => (mapO (fun f : Field => (szOf P f.type).map fun s => (f.offset, s)) fs.toList).map .st
  | some (.array _ e) => (szOf P e).map .ar
  | _ => none
def Pl.at : Pl → Nat → Option (Nat × Nat)
  | .st l, i => l[i]?
  | .ar s, i => some (i * s, s)
/-- For each cell of a type: is it a slice, and of which size are its elements. -/
def cellTys (P : Program) : Nat → TypeId → Option (List (Option Nat))
  | 0, _ => none
  | d + 1, t =>
    match P.underlying t with
    | some (.slice e) => (szOf P e).map fun s => [some s]
    | some (.struct fs) => fs.toList.foldr (fun f acc => (cellTys P d f.type).bind fun a => acc.map fun b => a ++ b) (some [])
    | some (.array n e) => (cellTys P d e).map fun a => (List.replicate n a).flatten
    | some _ => some [none]
    | none => none

def cellsOf : T → Option (List T)
  | .agg l => some l
  | .junk | .und | .tup _ => none
  | x => some [x]
/-- The cells of a row in the store, of a slice over it. -/
def rowAt (l : List C) (off k : Nat) : List C := (l.drop off).take k
/-- What a slice shows: how many elements, and its cells. -/
def shown (S : St) : T → Option (Nat × List C)
  | .c (.s _ n l) => some (n, l)
  | .tmp _ n l => some (n, l)
  | .sl o off n sz _ =>
    match obj S.o o with
    | some (.arr l _ _) => some (n, rowAt l off (n * sz))
    | some (.fz l) => some (n, rowAt l off (n * sz))
    | _ => none
  | _ => none
def toC (S : St) : T → Option (C × List Nat)
  | .c x => some (x, [])
  | .sl o off n sz _ =>
    match obj S.o o with
    | some (.arr l g _) => some (.s none n (rowAt l off (n * sz)), [g])
    | some (.fz l) => some (.s none n (rowAt l off (n * sz)), [])
    | _ => none
  | _ => none
def toCs (S : St) : List T → Option (List C × List Nat)
  | [] => some ([], [])
  | x :: r => (toC S x).bind fun a => (toCs S r).map fun b => (a.1 :: b.1, a.2 ++ b.2)

def splice {α : Type} (l : List α) (off : Nat) (x : List α) : List α := l.take off ++ x ++ l.drop (off + x.length)
def fillT (pl : Nat → Option (Nat × Nat)) : List T → List (Nat × T) → Option (List T)
  | cs, [] => some cs
  | cs, (i, x) :: r =>
    (pl i).bind fun p => (cellsOf x).bind fun v =>
      if v.length = p.2 ∧ p.1 + p.2 ≤ cs.length then fillT pl (splice cs p.1 v) r else none

/-- What a callee is shown. -/
def snapC (S : St) : T → Option U
  | .sl o off n sz cap =>
    match obj S.o o with
    | some (.arr l _ _) => some (.tmp cap n (rowAt l off (n * sz)))
    | some (.fz l) => some (.c (.s cap n (rowAt l off (n * sz))))
    | _ => none
  | .c x => some (.c x)
  | .tmp cap n l => some (.tmp cap n l)
  | .rp p l off => some (.rp p l off)
  | .mp o =>
    match obj S.o o with
    | some (.mp es _) => some (.ms es)
    | _ => none
  | .ms es => some (.ms es)
  | .junk => some .junk
  | _ => none
def snapP (S : St) : T → Option T
  | .pt o off =>
    match obj S.o o with
    | some (.box l) => (mapO (snapC S) l).map fun l' => .rb l' off
    | some (.arr l _ _) => some (.rp false l off)
    | some (.fz l) => some (.rp true l off)
    | _ => none
  | .rb l off => some (.rb l off)
  | x => (snapC S x).map U.toT
def snap (S : St) : T → Option T
  | .agg l => (mapO (snapC S) l).map fun l' => .agg (l'.map U.toT)
  | .fn f l => (mapO (snapP S) l).map (.fn f)
  | x => snapP S x

/-- What came back, put behind the store. -/
def liftC (n : Nat) : T → T
  | .sl o off k sz cap => .sl (n + o) off k sz cap
  | x => x
def liftA (n : Nat) : T → T
  | .agg l => .agg (l.map (liftC n))
  | x => liftC n x
def lift (n : Nat) : T → T
  | .tup l => .tup (l.map (liftA n))
  | x => liftA n x
def arrs (n : Nat) : List (List C) → List Ob
  | [] => []
  | l :: r => .arr l n 1 :: arrs (n + 1) r

/-- What goes back. -/
def expC (S : St) (acc : List Nat × List (List C)) : T → Option Nat → Option (T × List Nat × List (List C))
  | .sl o off n sz _, _ =>
    match obj S.o o with
    | some (.arr l g _) => if acc.1.contains g then none else some (.sl acc.2.length 0 n sz none, g :: acc.1, acc.2 ++ [rowAt l off (n * sz)])
    | some (.fz l) => some (.c (.s none n (rowAt l off (n * sz))), acc.1, acc.2)
    | _ => none
  | .c (.s (some 0) 0 []), some sz => some (.sl acc.2.length 0 0 sz none, acc.1, acc.2 ++ [[]])
  | .c x, _ => some (.c x, acc.1, acc.2)
  | _, _ => none
def expL (S : St) : List T → List (Option Nat) → List Nat × List (List C) → Option (List T × List Nat × List (List C))
  | [], _, acc => some ([], acc.1, acc.2)
  | x :: r, ts, acc => (expC S acc x (ts.headD none)).bind fun a => (expL S r ts.tail a.2).map fun b => (a.1 :: b.1, b.2)
def expA (S : St) (acc : List Nat × List (List C)) (x : T) (ts : List (Option Nat)) : Option (T × List Nat × List (List C)) :=
  match x with
  | .agg l => (expL S l ts acc).map fun a => (.agg a.1, a.2)
  | x => expC S acc x (ts.headD none)
def expT (S : St) : List T → List (List (Option Nat)) → List Nat × List (List C) → Option (List T × List (List C))
  | [], _, acc => some ([], acc.2)
  | x :: r, ts, acc => (expA S acc x (ts.headD [])).bind fun a => (expT S r ts.tail a.2).map fun b => (a.1 :: b.1, b.2)

def asI : T → Option Int
  | .c (.v (.int _ n)) => some n
  | _ => none

/-- A load: from a variable, from a row. -/
def pick1 (ag : Bool) (sz : Nat) (l : Nat → Option T) (off : Nat) : Option T :=
  if ag = true then (mapO (fun j => l (off + j)) (List.range sz)).map .agg else l off
def loadT (P : Program) (S : St) (t : TypeId) (a : T) : Option T :=
  (aggOf P t).bind fun ag => (szOf P t).bind fun sz =>
    match a with
    | .pt o off =>
      match obj S.o o with
      | some (.box l) => pick1 ag sz (fun j => l[j]?) off
      | some (.arr l _ _) => pick1 ag sz (fun j => (l[j]?).map .c) off
      | some (.fz l) => pick1 ag sz (fun j => (l[j]?).map .c) off
      | _ => none
    | .rp _ l off => pick1 ag sz (fun j => (l[j]?).map .c) off
    | .rb l off => pick1 ag sz (fun j => (l[j]?).map U.toT) off
    | _ => none

def boundI (x : T) (y : Nat) : Option Nat := (asI x).bind fun i => if 0 ≤ i ∧ i ≤ (y : Int) then some i.toNat else none
def lowB (lo : Option T) (h : Nat) (cp : Option Nat) : Option (Nat × Nat × Option Nat) :=
  match lo with
  | none => some (0, h, cp)
  | some l => (boundI l h).map fun l => (l, h, cp)
def sliceBnd (n : Nat) (cap : Option Nat) (lo hi mx : Option T) : Option (Nat × Nat × Option Nat) :=
  match mx, hi with
  | none, none => lowB lo n cap
  | none, some h => (boundI h n).bind fun h => lowB lo h cap
  | some m, some h => (boundI m n).bind fun m => (boundI h m).bind fun h => lowB lo h (some m)
  | some _, none => none
def sliceT (S : St) (e : Nat) (x : T) (lo hi mx : Option T) : Option T :=
  match x with
  | .c (.s cap n l) => (sliceBnd n cap lo hi mx).map fun p => .c (.s (p.2.2.map (· - p.1)) (p.2.1 - p.1) (rowAt l (p.1 * e) ((p.2.1 - p.1) * e)))
  | .tmp cap n l => (sliceBnd n cap lo hi mx).map fun p => .tmp (p.2.2.map (· - p.1)) (p.2.1 - p.1) (rowAt l (p.1 * e) ((p.2.1 - p.1) * e))
  | .sl o off n sz cap => if sz = e then (sliceBnd n cap lo hi mx).map fun p => .sl o (off + p.1 * e) (p.2.1 - p.1) e (p.2.2.map (· - p.1)) else none
  | _ => none

/-- The row behind an append. -/
def app1 (n k m by_ sz : Nat) (l x : List C) (g gen : Nat) : Option (T × List Ob) :=
  if (k + m) * by_ ≤ 140737488355328 then some (.sl n 0 (k + m) sz none, [.arr (l ++ x) g gen]) else none
def appendT (P : Program) (S : St) (e : TypeId) (s x : T) : Option (T × List Ob) :=
  (szOf P e).bind fun sz => (bytesOf P e).bind fun by_ => (zeroOf P e).bind fun z => (shown S x).bind fun m =>
    if m.2.length = m.1 * sz ∧ z.length = sz ∧ 0 < by_ then
      match s with
      | .c (.s (some 0) 0 []) => app1 S.n 0 m.1 by_ sz [] m.2 S.n 1
      | .sl o 0 n sz' cap =>
        match obj S.o o with
        | some (.arr l g gen) =>
          if l.length = n * sz ∧ sz' = sz ∧ 0 < gen ∧ tipOk g gen S.o = true then app1 S.n n m.1 by_ sz l m.2 g (gen + 1) else none
        | _ => none
      | _ => none
    else none

def lenT (S : St) (u : Option TypeDesc) (x : T) : Option T :=
  match u, x with
  | some .string, .c (.v (.string s)) => some (I s.size)
  | some (.slice _), .c (.s _ n _) => some (I n)
  | some (.slice _), .tmp _ n _ => some (I n)
  | some (.slice _), .sl _ _ n _ _ => some (I n)
  | some (.map _ _), .mp o =>
    match obj S.o o with
    | some (.mp es _) => some (I es.length)
    | _ => none
  | some (.map _ _), .ms es => some (I es.length)
  | _, _ => none
def minT (x y : T) : Option T :=
  match x, y with
  | .c (.v (.int k x)), .c (.v (.int _ y)) => some (.c (.v (.int k (if y < x then y else x))))
  | _, _ => none
def maxT (x y : T) : Option T :=
  match x, y with
  | .c (.v (.int k x)), .c (.v (.int _ y)) => some (.c (.v (.int k (if y > x then y else x))))
  | _, _ => none
/-- A value, nothing made. -/
def w0 (r : Option T) : Option (T × List Ob) := r.map fun x => (x, [])
def builtinT (P : Program) (S : St) (b : Builtin) (ats : Array TypeId) (xs : List T) : Option (T × List Ob) :=
  match b, xs with
  | .len, [x] => (ats[0]?).bind fun t => w0 (lenT S (P.underlying t) x)
  | .min, [x, y] => w0 (minT x y)
  | .max, [x, y] => w0 (maxT x y)
  | .append, [s, x] => ((ats[0]?).bind (elemOf P)).bind fun e => ((ats[1]?).bind (elemOf P)).bind fun _ => appendT P S e s x
  | _, _ => none

def callT (cl : FuncId → List T → Option R) (S : St) (f : T) (xs : List T) : Option (T × List Ob) :=
  match f with
  | .fn f caps => (mapO (snap S) xs).bind fun a => (mapO (snapP S) caps).bind fun c => (cl f (a ++ c)).map fun r => (lift S.n r.1, arrs S.n r.2)
  | _ => none

def isW : Op → Bool
  | .store .. | .mapUpdate .. | .mapEntry .. | .entryStore .. => true
  | _ => false

def keyIx (k : Value) : List (Value × C × Nat) → Nat → Option (Option Nat)
  | [], _ => some none
  | e :: r, i =>
    match k, e.1 with
    | .int a x, .int b y => if a = b then (if x = y then some (some i) else keyIx k r (i + 1)) else none
    | _, _ => none
def isIntMap (P : Program) (t : TypeId) : Option TypeId :=
  match P.underlying t with
  | some (.map k e) => match P.underlying k with | some (.int _) => some e | _ => none
  | _ => none

/-- A value, nothing made. -/
def v0 (r : Option T) : Option (T × List Ob × List Nat) := r.map fun x => (x, [], [])
/-- A value, and what is made. -/
def v1 (r : Option (T × List Ob)) : Option (T × List Ob × List Nat) := r.map fun x => (x.1, x.2, [])
def arrOf (P : Program) (t : TypeId) : Option (Nat × TypeId) := match P.underlying t with | some (.array n e) => some (n, e) | _ => none
def pickT (c a b : T) : Option T :=
  match c with
  | .c (.v (.bool q)) => bif q then some a else some b
  | _ => none
def allocT (n : Nat) (z : Option (List T)) : Option (T × List Ob) := z.map fun z => (.pt n 0, [.box z])
def buildT (P : Program) (t : TypeId) (ps : List (Nat × T)) : Option T :=
  (zeroOf P t).bind fun z => (placesOf P t).bind fun pl => (fillT pl.at z ps).map .agg
def buildSliceT (P : Program) (S : St) (t : TypeId) (n : Nat) (ps : List (Nat × T)) : Option (T × List Ob × List Nat) :=
  (elemOf P t).bind fun e => (szOf P e).bind fun sz => (zeroOf P e).bind fun z =>
    if n * sz ≤ 16777216 ∧ z.length = sz then
      (fillT (fun i => some (i * sz, sz)) ((List.replicate n z).flatten) ps).bind fun c =>
        (toCs S c).map fun q => (.sl S.n 0 n sz (some n), [.arr q.1 S.n 1], q.2)
    else none
def nilT : T → Option T
  | .pt o f => some (.pt o f)
  | .rp p l f => some (.rp p l f)
  | .rb l f => some (.rb l f)
  | _ => none
/-- A type of rows of two numbers. -/
def isRow2 (P : Program) (t : TypeId) : Bool := match P.underlying t with
  | some (.array 2 e) => (match P.underlying e with | some (.int .i64) => true | _ => false) && P.plainKey e && (P.info? e).isSome && !(P.eqGuardType P.depth t) && (P.cellsOf e == 1)
  | _ => false
def cmp2 (P : Program) (op : BinOp) (xt : TypeId) (a b c d : Int) : Option T :=
  if isRow2 P xt = true then (match op with
    | .eql => some (.c (.v (.bool (decide (a = c ∧ b = d)))))
    | .neq => some (.c (.v (.bool (!decide (a = c ∧ b = d)))))
    | _ => none) else none
def bin2 (P : Program) (op : BinOp) (xt : TypeId) (x y : Operand) (a b : T) : Option T :=
  match a, b with
  | .c (.v a), .c (.v b) => (peel P (do eqGuard op xt x y a b; binOp op xt a b)).bind ofV
  | .agg [.c (.v (.int .i64 a)), .c (.v (.int .i64 b))], .agg [.c (.v (.int .i64 c)), .c (.v (.int .i64 d))] => cmp2 P op xt a b c d
  | _, _ => none
def un1 (P : Program) (op : UnOp) (a : T) : Option T :=
  match a with
  | .c (.v a) => (peel P (Op.unary op a)).bind ofV
  | _ => none
def conv1 (P : Program) (s d : TypeId) (a : T) : Option T :=
  match a with
  | .c (.v a) => (peel P (convert s d a)).bind ofV
  | _ => none
def makeFuncT (fn : Fn) (first : Array Operand) (caps : List T) : Option T :=
  match fn with
  | .func f => if first.size = 0 then some (.fn f caps) else none
  | _ => none
def makeMapT (P : Program) (n : Nat) (t : TypeId) (r : Option Operand) : Option (T × List Ob) :=
  match r with
  | none => (isIntMap P t).map fun _ => (.mp n, [.mp [] 0])
  | some _ => none
def makeSliceT (P : Program) (S : St) (t : TypeId) (n c : T) : Option (T × List Ob) :=
  (elemOf P t).bind fun e => (szOf P e).bind fun sz => (bytesOf P e).bind fun by_ => (zeroOf P e).bind fun z =>
    match n, c with
    | .c (.v (.int .i64 a)), .c (.v (.int .i64 b)) =>
      if 0 ≤ a ∧ a = b ∧ a ≤ 140737488355328 ∧ a * by_ ≤ 140737488355328 ∧ sz = 1 then
        match z with
        | [.c (.v z)] => some (.sl S.n 0 a.toNat sz (some a.toNat), [.arr (List.replicate a.toNat (.v z)) S.n 1])
        | _ => none
      else none
    | _, _ => none
def fieldAddrT (P : Program) (t : TypeId) (i : Nat) (x : T) : Option T :=
  (fieldOf P t i).bind fun p => (szOf P p.2).bind fun sz =>
    match sz, x with
    | 0, _ => none
    | _ + 1, .pt o off => some (.pt o (off + p.1))
    | _ + 1, .rp q l off => some (.rp q l (off + p.1))
    | _ + 1, .rb l off => some (.rb l (off + p.1))
    | _, _ => none
/-- A part of an aggregate's cells. -/
def partT (P : Program) (t : TypeId) (l : List T) (off : Nat) : Option T :=
  (aggOf P t).bind fun ag => (szOf P t).bind fun sz => if ag then (if off + sz ≤ l.length then some (.agg ((l.drop off).take sz)) else none) else l[off]?
def fieldT (P : Program) (t : TypeId) (i : Nat) (x : T) : Option T :=
  (fieldOf P t i).bind fun p =>
    match x with
    | .agg l => partT P p.2 l p.1
    | _ => none
def indexAddrT (P : Program) (t : TypeId) (x i : T) : Option T :=
  (asI i).bind fun k =>
    match x with
    | .c (.s _ n l) => (elemOf P t).bind fun e => (szOf P e).bind fun sz => if 0 ≤ k ∧ k < (n : Int) then some (.rp true l (k.toNat * sz)) else none
    | .tmp _ n l => (elemOf P t).bind fun e => (szOf P e).bind fun sz => if 0 ≤ k ∧ k < (n : Int) then some (.rp false l (k.toNat * sz)) else none
    | .sl o off n _ _ => (elemOf P t).bind fun e => (szOf P e).bind fun sz => if 0 ≤ k ∧ k < (n : Int) then some (.pt o (off + k.toNat * sz)) else none
    | .pt o off => (arrOf P t).bind fun a => (szOf P a.2).bind fun sz => if 0 ≤ k ∧ k < (a.1 : Int) then some (.pt o (off + k.toNat * sz)) else none
    | .rp q l off => (arrOf P t).bind fun a => (szOf P a.2).bind fun sz => if 0 ≤ k ∧ k < (a.1 : Int) then some (.rp q l (off + k.toNat * sz)) else none
    | .rb l off => (arrOf P t).bind fun a => (szOf P a.2).bind fun sz => if 0 ≤ k ∧ k < (a.1 : Int) then some (.rb l (off + k.toNat * sz)) else none
    | _ => none
def indexT (P : Program) (t : TypeId) (x i : T) : Option T :=
  match x with
  | .agg l => (asI i).bind fun k => (arrOf P t).bind fun a => (szOf P a.2).bind fun sz => if 0 ≤ k ∧ k < (a.1 : Int) then partT P a.2 l (k.toNat * sz) else none
  | _ => none
/-- A zero value of one cell. -/
def zero1 (P : Program) (t : TypeId) : Option T := (P.info? t).bind fun i => i.zero.map cellT
/-- The entries of a map. -/
def mapOf (S : St) : T → Option (List (Value × C × Nat))
  | .mp p => match obj S.o p with | some (.mp es _) => some es | _ => none
  | .ms es => some es
  | _ => none
def lookupT (P : Program) (S : St) (t : TypeId) (m k : T) (ok : Bool) : Option T :=
  (isIntMap P t).bind fun e => (zero1 P e).bind fun z =>
    match k, z with
    | .c (.v kv), .c z => (mapOf S m).bind fun es => (keyIx kv es 0).map fun r =>
        bif ok then .tup [.c (((r.bind (es[·]?)).map (·.2.1)).getD z), B r.isSome] else .c (((r.bind (es[·]?)).map (·.2.1)).getD z)
    | _, _ => none
def extractT (x : T) (i : Nat) : Option T :=
  match x with
  | .tup l => l[i]?
  | _ => none
def sliceO (P : Program) (S : St) (t : TypeId) (x : T) (lo hi mx : Option T) : Option T :=
  (elemOf P t).bind fun e => (szOf P e).bind fun sz => sliceT S sz x lo hi mx

def St.evP (S : St) (p : Nat × Operand) : Nat × T := (p.1, S.ev p.2)
/-- An operation that writes nothing that is there: its value, what it makes, which groups are not written any more. -/
def opN (E : Env) (cl : FuncId → List T → Option R) (S : St) (o : Oper) : Option (T × List Ob × List Nat) :=
  match o.op with
  | .move x | .assign x => some (S.ev x, [], [])
  | .pick c a b => v0 (pickT (S.ev c) (S.ev a) (S.ev b))
  | .alloc t => v1 (allocT S.n (zeroOf E.P t))
  | .box _ x => v1 (allocT S.n (cellsOf (S.ev x)))
  | .build t ps => v0 (buildT E.P t (ps.toList.map S.evP))
  | .buildSlice t n ps => buildSliceT E.P S t n (ps.toList.map S.evP)
  | .load t a => v0 (loadT E.P S t (S.ev a))
  | .nilCheck x => v0 (nilT (S.ev x))
  | .binOp op xt x y _ => v0 (bin2 E.P op xt x y (S.ev x) (S.ev y))
  | .unOp op _ x => v0 (un1 E.P op (S.ev x))
  | .convert s d x => v0 (conv1 E.P s d (S.ev x))
  | .makeFunc fn first caps => v0 (makeFuncT fn first (caps.toList.map S.ev))
  | .makeMap t r => v1 (makeMapT E.P S.n t r)
  | .makeSlice t n c => v1 (makeSliceT E.P S t (S.ev n) (S.ev c))
  | .slice t x lo hi mx => v0 (sliceO E.P S t (S.ev x) (lo.map S.ev) (hi.map S.ev) (mx.map S.ev))
  | .fieldAddr s x f => v0 (fieldAddrT E.P s f (S.ev x))
  | .field t x f => v0 (fieldT E.P t f (S.ev x))
  | .indexAddr t x i => v0 (indexAddrT E.P t (S.ev x) (S.ev i))
  | .index t x i => v0 (indexT E.P t (S.ev x) (S.ev i))
  | .lookup t m k ok => v0 (lookupT E.P S t (S.ev m) (S.ev k) ok)
  | .extract x i => v0 (extractT (S.ev x) i)
  | .call c =>
    match c.callee with
    | .builtin b => v1 (builtinT E.P S b c.argTypes (c.args.toList.map S.ev))
    | .value f => v1 (callT cl S (S.ev f) (c.args.toList.map S.ev))
    | .invoke .. => none
  | _ => none

/-- The value of one cell. -/
def oneT : T → Bool
  | .junk | .und | .agg _ | .tup _ => false
  | _ => true
def storeT (P : Program) (S : St) (t : TypeId) (a x : T) : Option (List (Nat × Ob)) :=
  (szOf P t).bind fun sz => (cellsOf x).bind fun v =>
    if v.length = sz ∧ v.all oneT = true ∧ 0 < sz then
      match a with
      | .pt p off =>
        match obj S.o p with
        | some (.box l) => if off + sz ≤ l.length then some (setO p (.box (splice l off v)) S.o) else none
        | some (.arr l g gen) =>
          if off + sz ≤ l.length then
            match toCs S v with
            | some (q, []) => some (killG g p (setO p (.arr (splice l off q) g gen) S.o))
            | _ => none
          else none
        | _ => none
      | _ => none
    else none
/-- The entries with one more, or with another value. -/
def putE (es : List (Value × C × Nat)) (cl : Nat) (k : Value) (x : C) : Option Nat → List (Value × C × Nat) × Nat
  | some i => (es.modify i fun y => (y.1, x, y.2.2), cl)
  | none => (es ++ [(k, x, cl)], cl + 1)
def mapUpdateT (P : Program) (S : St) (t : TypeId) (m k x : T) : Option (List (Nat × Ob)) :=
  (isIntMap P t).bind fun _ =>
    match m, k, x with
    | .mp p, .c (.v (.int kk ki)), .c x =>
      match obj S.o p with
      | some (.mp es cl) => (keyIx (.int kk ki) es 0).map fun r => setO p (.mp (putE es cl (.int kk ki) x r).1 (putE es cl (.int kk ki) x r).2) S.o
      | _ => none
    | _, _, _ => none
def opW (E : Env) (S : St) (o : Oper) : Option (List (Nat × Ob)) :=
  match o.op with
  | .store t a x => storeT E.P S t (S.ev a) (S.ev x)
  | .mapUpdate t m k x => mapUpdateT E.P S t (S.ev m) (S.ev k) (S.ev x)
  | _ => none

def frOk : Bool → List Nat → Bool
  | true, _ :: _ => false
  | _, _ => true
def opA (E : Env) (cl : FuncId → List T → Option R) (dr : Bool) (S : St) (o : Oper) : Option St :=
  if isW o.op then (opW E S o).map fun os => St.putO { S with o := os } o.dst .und
  else (opN E cl S o).bind fun r => bif frOk dr r.2.2 then some ((S.add r.2.2 r.2.1).putO o.dst r.1) else none

def gtmp (ops : Array Oper) (g : Nat) : Option Nat := (ops[g]?).bind (·.dst)
/-- One operation of a region, its guard seen to. -/
def opG (E : Env) (cl : FuncId → List T → Option R) (dr : Bool) (ops : Array Oper) (S : St) (o : Oper) (k : St → Option St) : Option St :=
  match o.guard with
  | none => (opA E cl dr S o).bind k
  | some (g, want) =>
    match gtmp ops g with
    | none => none
    | some d =>
      match get S.t d with
      | .c (.v (.bool b)) => bif b
          then (bif want then (opA E cl dr (S.put d (B true)) o).bind k else k ((S.put d (B true)).putO o.dst .und))
          else (bif want then k ((S.put d (B false)).putO o.dst .und) else (opA E cl dr (S.put d (B false)) o).bind k)
      | .und => k (S.putO o.dst .und)
      | _ => none
def tops (E : Env) (cl : FuncId → List T → Option R) (dr : Bool) (ops : Array Oper) : List Oper → St → Option St
  | [], S => some S
  | o :: r, S => opG E cl dr ops S o (tops E cl dr ops r)

def firstId : Code → Nat
  | .region id _ _ => id
  | .seq a _ => firstId a
  | .block _ b => firstId b
  | .loop b => firstId b
  | .scope b => firstId b
  | .cond _ a _ => firstId a
  | _ => 0

def te (E : Env) (O : Ora) (f : FuncId) : Code → St → Option (Ex × St)
  | .skip, S => some (.nor, S)
  | .region id ops dr, S => (tops E O.call dr ops ops.toList (frzA S (E.fz f id))).map fun S => (.nor, S)
  | .seq a b, S =>
    match te E O f a S with
    | some (.nor, S) => te E O f b S
    | r => r
  | .cond c a b, S =>
    match S.ev c with
    | .c (.v (.bool q)) =>
      match c with
      | .tmp t => bif q then te E O f a (S.put t (B true)) else te E O f b (S.put t (B false))
      | _ => bif q then te E O f a S else te E O f b S
    | _ => none
  | .block id b, S =>
    match te E O f b S with
    | some (.exit i, S) => if i = id then some (.nor, S) else some (.exit i, S)
    | r => r
  | .loop b, S => O.loop f (firstId b) S
  | .exit id, S => some (.exit id, S)
  | .ret, S => some (.ret, S)
  | _, _ => none

/-- The loops of a code, and one by its first region. -/
def loopsOf : Code → List Code
  | .loop b => b :: loopsOf b
  | .seq a b => loopsOf a ++ loopsOf b
  | .cond _ a b => loopsOf a ++ loopsOf b
  | .block _ b => loopsOf b
  | _ => []
def findLoop (id : Nat) : Code → Option Code
  | .loop b => if firstId b = id then some b else findLoop id b
  | .seq a b => match findLoop id a with | some r => some r | none => findLoop id b
  | .cond _ a b => match findLoop id a with | some r => some r | none => findLoop id b
  | .block _ b => findLoop id b
  | _ => none
/-! What is checked of each function once, by the kernel. -/
def nodupB : List Nat → Bool
  | [] => true
  | x :: l => !l.contains x && nodupB l
/-- For each operation those that come ahead of it in every order, as bits. -/
def ancs : List Oper → List Nat → List Nat
  | [], acc => acc
  | o :: l, acc => ancs l (acc ++ [o.after.toList.foldl (fun s e => if Region.binds .any e then s ||| 2 ^ e.on ||| acc.getD e.on 0 else s) 0])
def isA : Op → Bool
  | .call ⟨.builtin .append, _, _⟩ => true
  | _ => false
def disj (ops : Array Oper) (x y : Oper) : Bool :=
  (match x.dst with | some d => !(y.looksAt ops).contains d && y.dst != some d | none => true) && (match y.dst with | some d => !(x.looksAt ops).contains d | none => true)
def pairOk (ops : Array Oper) (mk : List Nat) (i j : Nat) (x y : Oper) : Bool :=
  (mk.getD j 0).testBit i || (!isW x.op && !isW y.op && !(isA x.op && isA y.op) && disj ops x y)
def okDraw (ops : Array Oper) : Bool :=
  let l := ops.toList
  let mk := ancs l []
  l.zipIdx.all fun (y, j) => y.after.toList.all (fun e => !Region.binds .any e || decide (e.on < j)) && l.zipIdx.all fun (x, i) => decide (j ≤ i) || pairOk ops mk i j x y
def okCode (m : Nat) : Code → Bool
  | .region _ ops dr => (ops.toList.all fun o => match o.dst with | some d => decide (d < m) | none => true) && (!dr || okDraw ops)
  | .seq a b => okCode m a && okCode m b
  | .cond _ a b => okCode m a && okCode m b
  | .block _ b => okCode m b
  | .loop b => okCode m b
  | _ => true
def okFunc (fn : Func) : Bool :=
  !(fn.name == "runtime.NumGoroutine") && match fn.body with
  | some b => okCode fn.ntmps b && nodupB ((loopsOf b).map firstId)
  | none => true

/-! The store is laid anew: what the kept temporaries reach, under new names. -/
structure Foc where
  ren : List (Nat × Nat)       -- elder names and new ones
  gs : List (Nat × Nat)        -- groups
  o : List (Nat × Ob)          -- the new store
  n : Nat
def look : List (Nat × Nat) → Nat → Option Nat
  | [], _ => none
  | (k, x) :: r, i => if k = i then some x else look r i
def focC (S : St) (dup : Bool) (F : Foc) : T → Option (T × Foc)
  | .sl o off n sz cap =>
    match (if dup then none else look F.ren o) with
    | some o' => some (.sl o' off n sz cap, F)
    | none =>
      match obj S.o o with
      | some (.arr l g gen) =>
        let gen' := if tipOk g gen S.o then min gen 1 else 0
        match look F.gs g with
        | some g' => some (.sl F.n off n sz cap, { F with ren := (o, F.n) :: F.ren, o := F.o ++ [(F.n, .arr l g' gen')], n := F.n + 1 })
        | none => some (.sl F.n off n sz cap, { ren := (o, F.n) :: F.ren, gs := (g, F.n) :: F.gs, o := F.o ++ [(F.n, .arr l F.n gen')], n := F.n + 1 })
      | some (.fz l) => some (.sl F.n off n sz cap, { F with ren := (o, F.n) :: F.ren, o := F.o ++ [(F.n, .fz l)], n := F.n + 1 })
      | _ => none
  | .mp o =>
    match look F.ren o with
    | some o' => some (.mp o', F)
    | none =>
      match obj S.o o with
      | some (.mp es c) => some (.mp F.n, { F with ren := (o, F.n) :: F.ren, o := F.o ++ [(F.n, .mp es c)], n := F.n + 1 })
      | _ => none
  | .pt .. | .agg _ | .tup _ | .fn .. => none
  | x => some (x, F)
def focL (S : St) (dup : Bool) : List T → Foc → Option (List T × Foc)
  | [], F => some ([], F)
  | x :: r, F => (focC S dup F x).bind fun a => (focL S dup r a.2).map fun b => (a.1 :: b.1, b.2)
def focP (S : St) (dup : Bool) (F : Foc) : T → Option (T × Foc)
  | .pt o off =>
    match look F.ren o with
    | some o' => some (.pt o' off, F)
    | none =>
      match obj S.o o with
      | some (.box l) => (focL S dup l F).map fun a => (.pt a.2.n off, { a.2 with ren := (o, a.2.n) :: a.2.ren, o := a.2.o ++ [(a.2.n, .box a.1)], n := a.2.n + 1 })
      | _ => none
  | x => focC S dup F x
def focPs (S : St) (dup : Bool) : List T → Foc → Option (List T × Foc)
  | [], F => some ([], F)
  | x :: r, F => (focP S dup F x).bind fun a => (focPs S dup r a.2).map fun b => (a.1 :: b.1, b.2)
def foc1 (S : St) (dup : Bool) (F : Foc) : T → Option (T × Foc)
  | .agg l => (focL S dup l F).map fun a => (.agg a.1, a.2)
  | .tup l => (focL S dup l F).map fun a => (.tup a.1, a.2)
  | .fn f l => (focPs S dup l F).map fun a => (.fn f a.1, a.2)
  | x => focP S dup F x
def focK (S : St) : Keep → Foc → Option (List (Nat × T) × Foc)
  | [], F => some ([], F)
  | (t, dup) :: r, F => (foc1 S dup F (get S.t t)).bind fun a => (focK S r a.2).map fun b => ((t, a.1) :: b.1, b.2)
def focus (k : Keep) (S : St) : Option St := (focK S k ⟨[], [], [], 0⟩).map fun a => ⟨a.1, a.2.o, a.2.n⟩

/-- What is nil so far, and is appended to later, gets a row of its own: a temporary, or a cell of the box that it points at. -/
def own1 (t : Nat) (i : Option Nat) (sz : Nat) (S : St) : St :=
  match i, get S.t t with
  | none, .c (.s (some 0) 0 []) => ⟨(t, .sl S.n 0 0 sz none) :: S.t, (S.n, .arr [] S.n 1) :: S.o, S.n + 1⟩
  | some i, .pt o _ =>
    match obj S.o o with
    | some (.box l) =>
      match l[i]? with
      | some (.c (.s (some 0) 0 [])) => ⟨S.t, (S.n, .arr [] S.n 1) :: setO o (.box (l.set i (.sl S.n 0 0 sz none))) S.o, S.n + 1⟩
      | _ => S
    | _ => S
  | _, _ => S
def prep : List (Nat × Option Nat × Nat) → St → St
  | [], S => S
  | (t, i, sz) :: r, S => prep r (own1 t i sz S)

def params : Nat → List T → List (Nat × T)
  | _, [] => []
  | i, x :: r => (i, x) :: params (i + 1) r
def resT (P : Program) (S : St) : ResultVar → Option T
  | .tmp t => some (get S.t t)
  | .cell a t => loadT P S t (get S.t a)
def retT (P : Program) (rs : List ResultVar) (tys : List TypeId) (S : St) : Option R :=
  (mapO (resT P S) rs).bind fun l => (mapO (cellTys P 8) tys).bind fun ts =>
    (expT S l ts ([], [])).map fun a => (match a.1 with | [x] => x | l => .tup l, a.2)
def runF (E : Env) (O : Ora) (f : FuncId) (fn : Func) (xs : List T) : Option R :=
  match fn.body with
  | none => none
  | some b =>
    if xs.length ≤ fn.ntmps ∧ okFunc fn = true then
    match te E O f b ⟨params 0 xs, [], 0⟩ with
    | some (.nor, S) | some (.ret, S) => retT E.P fn.results.toList fn.resultTypes.toList S
    | _ => none
    else none
/-- One round of a loop and what follows. -/
def runL (E : Env) (O : Ora) (f id : Nat) (again : St → Option (Ex × St)) (S : St) : Option (Ex × St) :=
  (focus (E.kp f id).1 (prep (E.own f id) S)).bind fun S =>
    ((E.P.funcs[f]?).bind fun fn => fn.body.bind (findLoop id)).bind fun b =>
      match te E O f b S with
      | some (.nor, S) => again S
      | some (.exit i, S) => (focus (E.kp f id).2 S).map fun S => (.exit i, S)
      | some (.ret, S) => (focus (E.kr f) S).map fun S => (.ret, S)
      | none => none
def ora (E : Env) (pr : FuncId → List T → Option R) : Nat → Ora
  | 0 => ⟨fun _ _ => none, fun _ _ _ => none⟩
  | n + 1 =>
    ⟨fun f xs => match pr f xs with
        | some r => some r
        | none => (E.P.funcs[f]?).bind fun fn => runF E (ora E pr n) f fn xs,
     fun f id S => runL E (ora E pr n) f id ((ora E pr n).loop f id) S⟩
end Go.Proofs.Ytnbijiopcgfmfaa.Tev
