/- Part 1: Tev, TevRel, TevOps, TevOps2. -/
import Derived.Orders
import Derived.Below
import Derived.KernelRfl
import Derived.ChangeKeysEq
import Derived.Laws.Cells
import Derived.Laws.CopyRow
import Derived.Laws.IdiomCopy
import Derived.Deep.MidRow
import Derived.Calls
import Derived.Laws.Sem
/- An evaluator of Go code over trees: slices that are only read are lists; what a call makes for itself lies in a small store of its own. Definitions alone; TevSound shows that what it returns is what the program returns. -/
namespace Go.Proofs.YtnbijiopcgfmfaaGreat.Tev
open Go Go.RowKit
set_option linter.unusedSectionVars false
set_option linter.unusedVariables false
set_option linter.unusedSimpArgs false

/-- What may lie in a cell that is only read: a number, a bool, a string; a slice with its cells. -/
inductive C where
  | v (x : Value)
  | s (cap : Option Nat) (n : Nat) (l : List C)

/-- What may lie in a variable that is only read. -/
inductive U where
  | c (x : C)
  | junk
  | tmp (cap : Option Nat) (n : Nat) (l : List C)
  | rp (p : Bool) (l : List C) (off : Nat)
  | ms (es : List (Value × C × Nat))
/-- What a temporary holds. -/
inductive T where
  | c (x : C)
  | und
  | junk
  | agg (l : List T)
  | tup (l : List T)
  | tmp (cap : Option Nat) (n : Nat) (l : List C)
  | sl (o off n sz : Nat) (cap : Option Nat)
  | pt (o off : Nat)
  | rp (p : Bool) (l : List C) (off : Nat)
  | rb (l : List U) (off : Nat)
  | fn (f : FuncId) (l : List T)
  | mp (o : Nat)
  | ms (es : List (Value × C × Nat))

def U.toT : U → T
  | .c x => .c x
  | .junk => .junk
  | .tmp cap n l => .tmp cap n l
  | .rp p l off => .rp p l off
  | .ms es => .ms es
/-- What lies in the store: a variable, a row with its group and its age in it, a row that nobody writes any more, a map. -/
inductive Ob where
  | box (l : List T)
  | arr (l : List C) (g gen : Nat)
  | fz (l : List C)
  | mp (es : List (Value × C × Nat)) (clock : Nat)
  | dead

structure St where
  t : List (Nat × T)
  o : List (Nat × Ob)
  n : Nat

abbrev R := T × List (List C)
abbrev Keep := List (Nat × Bool)

inductive Ex where
  | nor
  | exit (id : Nat)
  | ret

structure Env where
  P : Program
  kp : FuncId → Nat → Keep × Keep
  own : FuncId → Nat → List (Nat × Option Nat × Nat)
  kr : FuncId → Keep
  fz : FuncId → Nat → List Nat   -- what is not written any more, ahead of a region
  nd : FuncId → Nat → List (Nat × Nat) := fun _ _ => []   -- pointers of a drawn region that must be two

structure Ora where
  call : FuncId → List T → Option R
  loop : FuncId → Nat → St → Option (Ex × St)

abbrev CI (n : Int) : C := .v (.int .i64 n)
abbrev I (n : Int) : T := .c (.v (.int .i64 n))
abbrev B (b : Bool) : T := .c (.v (.bool b))

def get : List (Nat × T) → Nat → T
  | [], _ => .junk
  | (k, x) :: r, i => if k = i then x else get r i
def obj : List (Nat × Ob) → Nat → Option Ob
  | [], _ => none
  | (k, x) :: r, i => if k = i then some x else obj r i
def setO (o : Nat) (x : Ob) : List (Nat × Ob) → List (Nat × Ob)
  | [] => []
  | (k, y) :: r => if k = o then (k, x) :: setO o x r else (k, y) :: setO o x r
/-- What else is in group g goes. -/
def kill1 (g o k : Nat) : Ob → Ob
  | .arr l g' e => if g' = g ∧ k ≠ o then .dead else .arr l g' e
  | x => x
def killG (g o : Nat) : List (Nat × Ob) → List (Nat × Ob)
  | [] => []
  | (k, x) :: r => (k, kill1 g o k x) :: killG g o r
def frz1 (g : Nat) : Ob → Ob
  | .arr l g' e => if g' = g then .fz l else .arr l g' e
  | x => x
def frzG (g : Nat) : List (Nat × Ob) → List (Nat × Ob)
  | [] => []
  | (k, x) :: r => (k, frz1 g x) :: frzG g r
def frzGs : List Nat → List (Nat × Ob) → List (Nat × Ob)
  | [], l => l
  | g :: r, l => frzGs r (frzG g l)
/-- Nothing of group g is older in the row than gen. -/
def tipOk (g gen : Nat) : List (Nat × Ob) → Bool
  | [] => true
  | (_, .arr _ g' e) :: r => (if g' = g then decide (e ≤ gen) else true) && tipOk g gen r
  | _ :: r => tipOk g gen r
def addO (n : Nat) : List Ob → List (Nat × Ob)
  | [] => []
  | x :: r => (n, x) :: addO (n + 1) r

def St.put (S : St) (d : Nat) (x : T) : St := { S with t := (d, x) :: S.t }
def St.putO (S : St) : Option Nat → T → St
  | none, _ => S
  | some d, x => S.put d x
def St.add (S : St) (fz : List Nat) (nw : List Ob) : St := { S with o := addO S.n nw ++ frzGs fz S.o, n := S.n + nw.length }

/-- Rows that are not written any more from here on: those that temporaries reach. -/
def fzCell (S : St) : T → List Nat
  | .sl o _ _ _ _ => match obj S.o o with | some (.arr _ g _) => [g] | _ => []
  | _ => []
def fzCells (S : St) : List T → List Nat
  | [] => []
  | x :: l => fzCell S x ++ fzCells S l
def fz1 (S : St) : T → List Nat
  | .pt o _ => match obj S.o o with | some (.box l) => fzCells S l | _ => []
  | x => fzCell S x
def fzTs (S : St) : List Nat → List Nat
  | [] => []
  | t :: ts => fz1 S (get S.t t) ++ fzTs S ts
def frzA (S : St) : List Nat → St
  | [] => S
  | t :: ts => ⟨S.t, frzGs (fzTs S (t :: ts)) S.o, S.n⟩

def flat : Value → Bool
  | .int .. | .bool _ | .string _ | .float .. => true
  | _ => false
def cellT : Value → T
  | .slice none 0 0 => .c (.s (some 0) 0 [])
  | .int k n => .c (.v (.int k n))
  | .bool b => .c (.v (.bool b))
  | .string s => .c (.v (.string s))
  | .float k b => .c (.v (.float k b))
  | _ => .junk
def constT : Value → T
  | .agg cs => .agg (cs.toList.map cellT)
  | v => cellT v
def St.ev (S : St) : Operand → T
  | .tmp t => get S.t t
  | .const v => constT v
  | .func f => .fn f []
  | .global _ => .junk

/-- The semantics of an operation that touches nothing but numbers. -/
def peel (P : Program) {α : Type} : Sem α → Option α
  | .pure a => some a
  | .program k => peel P (k P)
  | .mark _ k => peel P k
  | _ => none

def T.toV : T → Option Value
  | .c (.v x) => some x
  | _ => none
def ofV (v : Value) : Option T := if flat v then some (.c (.v v)) else none

def szOf (P : Program) (t : TypeId) : Option Nat := (P.info? t).map (·.size)
def bytesOf (P : Program) (t : TypeId) : Option Nat := (P.info? t).map (·.bytes)
def zeroOf (P : Program) (t : TypeId) : Option (List T) := (P.info? t).bind fun i => i.zero.map fun v => v.cells.toList.map cellT
def aggOf (P : Program) (t : TypeId) : Option Bool :=
  match P.underlying t with
  | some (.struct _) | some (.array _ _) => some true
  | some _ => some false
  | none => none
def elemOf (P : Program) (t : TypeId) : Option TypeId := match P.underlying t with | some (.slice e) => some e | _ => none
def fieldOf (P : Program) (t : TypeId) (i : Nat) : Option (Nat × TypeId) := match P.underlying t with | some (.struct fs) => (fs[i]?).map fun f => (f.offset, f.type) | _ => none
/-- Where the parts of a struct or an array lie, and how many cells they have. -/
inductive Pl where
  | st (l : List (Nat × Nat))
  | ar (sz : Nat)
def mapO {α β : Type} (f : α → Option β) : List α → Option (List β)
  | [] => some []
  | x :: r => (f x).bind fun y => (mapO f r).map fun z => y :: z
def placesOf (P : Program) (t : TypeId) : Option Pl :=
  match P.underlying t with
  | some (.struct fs) => (mapO (fun f : Field => (szOf P f.type).map fun s => (f.offset, s)) fs.toList).map .st
  | some (.array _ e) => (szOf P e).map .ar
  | _ => none
def Pl.at : Pl → Nat → Option (Nat × Nat)
  | .st l, i => l[i]?
  | .ar s, i => some (i * s, s)
/-- For each cell of a type: is it a slice, and of which size are its elements. -/
def cellTys (P : Program) : Nat → TypeId → Option (List (Option Nat))
  | 0, _ => none
  | d + 1, t =>
    match P.underlying t with
    | some (.slice e) => (szOf P e).map fun s => [some s]
    | some (.struct fs) => fs.toList.foldr (fun f acc => (cellTys P d f.type).bind fun a => acc.map fun b => a ++ b) (some [])
    | some (.array n e) => (cellTys P d e).map fun a => (List.replicate n a).flatten
    | some _ => some [none]
    | none => none

def cellsOf : T → Option (List T)
  | .agg l => some l
  | .junk | .und | .tup _ => none
  | x => some [x]
/-- The cells of a row in the store, of a slice over it. -/
def rowAt (l : List C) (off k : Nat) : List C := (l.drop off).take k
/-- What a slice shows: how many elements, and its cells. -/
def shown (S : St) : T → Option (Nat × List C)
  | .c (.s _ n l) => some (n, l)
  | .tmp _ n l => some (n, l)
  | .sl o off n sz _ =>
    match obj S.o o with
    | some (.arr l _ _) => some (n, rowAt l off (n * sz))
    | some (.fz l) => some (n, rowAt l off (n * sz))
    | _ => none
  | _ => none
def toC (S : St) : T → Option (C × List Nat)
  | .c x => some (x, [])
  | .sl o off n sz _ =>
    match obj S.o o with
    | some (.arr l g _) => some (.s none n (rowAt l off (n * sz)), [g])
    | some (.fz l) => some (.s none n (rowAt l off (n * sz)), [])
    | _ => none
  | _ => none
def toCs (S : St) : List T → Option (List C × List Nat)
  | [] => some ([], [])
  | x :: r => (toC S x).bind fun a => (toCs S r).map fun b => (a.1 :: b.1, a.2 ++ b.2)

def splice {α : Type} (l : List α) (off : Nat) (x : List α) : List α := l.take off ++ x ++ l.drop (off + x.length)
def fillT (pl : Nat → Option (Nat × Nat)) : List T → List (Nat × T) → Option (List T)
  | cs, [] => some cs
  | cs, (i, x) :: r =>
    (pl i).bind fun p => (cellsOf x).bind fun v =>
      if v.length = p.2 ∧ p.1 + p.2 ≤ cs.length then fillT pl (splice cs p.1 v) r else none

/-- What a callee is shown. -/
def snapC (S : St) : T → Option U
  | .sl o off n sz cap =>
    match obj S.o o with
    | some (.arr l _ _) => some (.tmp cap n (rowAt l off (n * sz)))
    | some (.fz l) => some (.c (.s cap n (rowAt l off (n * sz))))
    | _ => none
  | .c x => some (.c x)
  | .tmp cap n l => some (.tmp cap n l)
  | .rp p l off => some (.rp p l off)
  | .mp o =>
    match obj S.o o with
    | some (.mp es _) => some (.ms es)
    | _ => none
  | .ms es => some (.ms es)
  | .junk => some .junk
  | _ => none
def snapP (S : St) : T → Option T
  | .pt o off =>
    match obj S.o o with
    | some (.box l) => (mapO (snapC S) l).map fun l' => .rb l' off
    | some (.arr l _ _) => some (.rp false l off)
    | some (.fz l) => some (.rp true l off)
    | _ => none
  | .rb l off => some (.rb l off)
  | x => (snapC S x).map U.toT
def snap (S : St) : T → Option T
  | .agg l => (mapO (snapC S) l).map fun l' => .agg (l'.map U.toT)
  | .fn f l => (mapO (snapP S) l).map (.fn f)
  | x => snapP S x

/-- What came back, put behind the store. -/
def liftC (n : Nat) : T → T
  | .sl o off k sz cap => .sl (n + o) off k sz cap
  | x => x
def liftA (n : Nat) : T → T
  | .agg l => .agg (l.map (liftC n))
  | x => liftC n x
def lift (n : Nat) : T → T
  | .tup l => .tup (l.map (liftA n))
  | x => liftA n x
def arrs (n : Nat) : List (List C) → List Ob
  | [] => []
  | l :: r => .arr l n 1 :: arrs (n + 1) r

/-- What goes back. -/
def expC (S : St) (acc : List Nat × List (List C)) : T → Option Nat → Option (T × List Nat × List (List C))
  | .sl o off n sz _, _ =>
    match obj S.o o with
    | some (.arr l g _) => if acc.1.contains g then none else some (.sl acc.2.length 0 n sz none, g :: acc.1, acc.2 ++ [rowAt l off (n * sz)])
    | some (.fz l) => some (.c (.s none n (rowAt l off (n * sz))), acc.1, acc.2)
    | _ => none
  | .c (.s (some 0) 0 []), some sz => some (.sl acc.2.length 0 0 sz none, acc.1, acc.2 ++ [[]])
  | .c x, _ => some (.c x, acc.1, acc.2)
  | _, _ => none
def expL (S : St) : List T → List (Option Nat) → List Nat × List (List C) → Option (List T × List Nat × List (List C))
  | [], _, acc => some ([], acc.1, acc.2)
  | x :: r, ts, acc => (expC S acc x (ts.headD none)).bind fun a => (expL S r ts.tail a.2).map fun b => (a.1 :: b.1, b.2)
def expA (S : St) (acc : List Nat × List (List C)) (x : T) (ts : List (Option Nat)) : Option (T × List Nat × List (List C)) :=
  match x with
  | .agg l => (expL S l ts acc).map fun a => (.agg a.1, a.2)
  | x => expC S acc x (ts.headD none)
def expT (S : St) : List T → List (List (Option Nat)) → List Nat × List (List C) → Option (List T × List (List C))
  | [], _, acc => some ([], acc.2)
  | x :: r, ts, acc => (expA S acc x (ts.headD [])).bind fun a => (expT S r ts.tail a.2).map fun b => (a.1 :: b.1, b.2)

def asI : T → Option Int
  | .c (.v (.int _ n)) => some n
  | _ => none

/-- A load: from a variable, from a row. -/
def pick1 (ag : Bool) (sz : Nat) (l : Nat → Option T) (off : Nat) : Option T :=
  if ag = true then (mapO (fun j => l (off + j)) (List.range sz)).map .agg else l off
def loadT (P : Program) (S : St) (t : TypeId) (a : T) : Option T :=
  (aggOf P t).bind fun ag => (szOf P t).bind fun sz =>
    match a with
    | .pt o off =>
      match obj S.o o with
      | some (.box l) => pick1 ag sz (fun j => l[j]?) off
      | some (.arr l _ _) => pick1 ag sz (fun j => (l[j]?).map .c) off
      | some (.fz l) => pick1 ag sz (fun j => (l[j]?).map .c) off
      | _ => none
    | .rp _ l off => pick1 ag sz (fun j => (l[j]?).map .c) off
    | .rb l off => pick1 ag sz (fun j => (l[j]?).map U.toT) off
    | _ => none

def boundI (x : T) (y : Nat) : Option Nat := (asI x).bind fun i => if 0 ≤ i ∧ i ≤ (y : Int) then some i.toNat else none
def lowB (lo : Option T) (h : Nat) (cp : Option Nat) : Option (Nat × Nat × Option Nat) :=
  match lo with
  | none => some (0, h, cp)
  | some l => (boundI l h).map fun l => (l, h, cp)
def sliceBnd (n : Nat) (cap : Option Nat) (lo hi mx : Option T) : Option (Nat × Nat × Option Nat) :=
  match mx, hi with
  | none, none => lowB lo n cap
  | none, some h => (boundI h n).bind fun h => lowB lo h cap
  | some m, some h => (boundI m n).bind fun m => (boundI h m).bind fun h => lowB lo h (some m)
  | some _, none => none
def sliceT (S : St) (e : Nat) (x : T) (lo hi mx : Option T) : Option T :=
  match x with
  | .c (.s cap n l) => (sliceBnd n cap lo hi mx).map fun p => .c (.s (p.2.2.map (· - p.1)) (p.2.1 - p.1) (rowAt l (p.1 * e) ((p.2.1 - p.1) * e)))
  | .tmp cap n l => (sliceBnd n cap lo hi mx).map fun p => .tmp (p.2.2.map (· - p.1)) (p.2.1 - p.1) (rowAt l (p.1 * e) ((p.2.1 - p.1) * e))
  | .sl o off n sz cap => if sz = e then (sliceBnd n cap lo hi mx).map fun p => .sl o (off + p.1 * e) (p.2.1 - p.1) e (p.2.2.map (· - p.1)) else none
  | _ => none

/-- The row behind an append. -/
def app1 (n k m by_ sz : Nat) (l x : List C) (g gen : Nat) : Option (T × List Ob) :=
  if (k + m) * by_ ≤ 140737488355328 then some (.sl n 0 (k + m) sz none, [.arr (l ++ x) g gen]) else none
def appendT (P : Program) (S : St) (e : TypeId) (s x : T) : Option (T × List Ob) :=
  (szOf P e).bind fun sz => (bytesOf P e).bind fun by_ => (zeroOf P e).bind fun z => (shown S x).bind fun m =>
    if m.2.length = m.1 * sz ∧ z.length = sz ∧ 0 < by_ then
      match s with
      | .c (.s (some 0) 0 []) => app1 S.n 0 m.1 by_ sz [] m.2 S.n 1
      | .sl o 0 n sz' cap =>
        match obj S.o o with
        | some (.arr l g gen) =>
          if l.length = n * sz ∧ sz' = sz ∧ 0 < gen ∧ tipOk g gen S.o = true then app1 S.n n m.1 by_ sz l m.2 g (gen + 1) else none
        | _ => none
      | _ => none
    else none

def lenT (S : St) (u : Option TypeDesc) (x : T) : Option T :=
  match u, x with
  | some .string, .c (.v (.string s)) => some (I s.size)
  | some (.slice _), .c (.s _ n _) => some (I n)
  | some (.slice _), .tmp _ n _ => some (I n)
  | some (.slice _), .sl _ _ n _ _ => some (I n)
  | some (.map _ _), .mp o =>
    match obj S.o o with
    | some (.mp es _) => some (I es.length)
    | _ => none
  | some (.map _ _), .ms es => some (I es.length)
  | _, _ => none
def minT (x y : T) : Option T :=
  match x, y with
  | .c (.v (.int k x)), .c (.v (.int _ y)) => some (.c (.v (.int k (if y < x then y else x))))
  | _, _ => none
def maxT (x y : T) : Option T :=
  match x, y with
  | .c (.v (.int k x)), .c (.v (.int _ y)) => some (.c (.v (.int k (if y > x then y else x))))
  | _, _ => none
/-- A value, nothing made. -/
def w0 (r : Option T) : Option (T × List Ob) := r.map fun x => (x, [])
def builtinT (P : Program) (S : St) (b : Builtin) (ats : Array TypeId) (xs : List T) : Option (T × List Ob) :=
  match b, xs with
  | .len, [x] => (ats[0]?).bind fun t => w0 (lenT S (P.underlying t) x)
  | .min, [x, y] => w0 (minT x y)
  | .max, [x, y] => w0 (maxT x y)
  | .append, [s, x] => ((ats[0]?).bind (elemOf P)).bind fun e => ((ats[1]?).bind (elemOf P)).bind fun _ => appendT P S e s x
  | _, _ => none

def callT (cl : FuncId → List T → Option R) (S : St) (f : T) (xs : List T) : Option (T × List Ob) :=
  match f with
  | .fn f caps => (mapO (snap S) xs).bind fun a => (mapO (snapP S) caps).bind fun c => (cl f (a ++ c)).map fun r => (lift S.n r.1, arrs S.n r.2)
  | _ => none

def isW : Op → Bool
  | .store .. | .mapUpdate .. | .mapEntry .. | .entryStore .. => true
  | _ => false

def keyIx (k : Value) : List (Value × C × Nat) → Nat → Option (Option Nat)
  | [], _ => some none
  | e :: r, i =>
    match k, e.1 with
    | .int a x, .int b y => if a = b then (if x = y then some (some i) else keyIx k r (i + 1)) else none
    | _, _ => none
def isIntMap (P : Program) (t : TypeId) : Option TypeId :=
  match P.underlying t with
  | some (.map k e) => match P.underlying k with | some (.int _) => some e | _ => none
  | _ => none

/-- A value, nothing made. -/
def v0 (r : Option T) : Option (T × List Ob × List Nat) := r.map fun x => (x, [], [])
/-- A value, and what is made. -/
def v1 (r : Option (T × List Ob)) : Option (T × List Ob × List Nat) := r.map fun x => (x.1, x.2, [])
def arrOf (P : Program) (t : TypeId) : Option (Nat × TypeId) := match P.underlying t with | some (.array n e) => some (n, e) | _ => none
def pickT (c a b : T) : Option T :=
  match c with
  | .c (.v (.bool q)) => bif q then some a else some b
  | _ => none
def allocT (n : Nat) (z : Option (List T)) : Option (T × List Ob) := z.map fun z => (.pt n 0, [.box z])
def buildT (P : Program) (t : TypeId) (ps : List (Nat × T)) : Option T :=
  (zeroOf P t).bind fun z => (placesOf P t).bind fun pl => (fillT pl.at z ps).map .agg
def buildSliceT (P : Program) (S : St) (t : TypeId) (n : Nat) (ps : List (Nat × T)) : Option (T × List Ob × List Nat) :=
  (elemOf P t).bind fun e => (szOf P e).bind fun sz => (zeroOf P e).bind fun z =>
    if n * sz ≤ 16777216 ∧ z.length = sz then
      (fillT (fun i => some (i * sz, sz)) ((List.replicate n z).flatten) ps).bind fun c =>
        (toCs S c).map fun q => (.sl S.n 0 n sz (some n), [.arr q.1 S.n 1], q.2)
    else none
def nilT : T → Option T
  | .pt o f => some (.pt o f)
  | .rp p l f => some (.rp p l f)
  | .rb l f => some (.rb l f)
  | _ => none
/-- A type of rows of two numbers. -/
def isRow2 (P : Program) (t : TypeId) : Bool := match P.underlying t with
  | some (.array 2 e) => (match P.underlying e with | some (.int .i64) => true | _ => false) && P.plainKey e && (P.info? e).isSome && !(P.eqGuardType P.depth t) && (P.cellsOf e == 1)
  | _ => false
def cmp2 (P : Program) (op : BinOp) (xt : TypeId) (a b c d : Int) : Option T :=
  if isRow2 P xt = true then (match op with
    | .eql => some (.c (.v (.bool (decide (a = c ∧ b = d)))))
    | .neq => some (.c (.v (.bool (!decide (a = c ∧ b = d)))))
    | _ => none) else none
def bin2 (P : Program) (op : BinOp) (xt : TypeId) (x y : Operand) (a b : T) : Option T :=
  match a, b with
  | .c (.v a), .c (.v b) => (peel P (do eqGuard op xt x y a b; binOp op xt a b)).bind ofV
  | .agg [.c (.v (.int .i64 a)), .c (.v (.int .i64 b))], .agg [.c (.v (.int .i64 c)), .c (.v (.int .i64 d))] => cmp2 P op xt a b c d
  | _, _ => none
def un1 (P : Program) (op : UnOp) (a : T) : Option T :=
  match a with
  | .c (.v a) => (peel P (Op.unary op a)).bind ofV
  | _ => none
def conv1 (P : Program) (s d : TypeId) (a : T) : Option T :=
  match a with
  | .c (.v a) => (peel P (convert s d a)).bind ofV
  | _ => none
def makeFuncT (fn : Fn) (first : Array Operand) (caps : List T) : Option T :=
  match fn with
  | .func f => if first.size = 0 then some (.fn f caps) else none
  | _ => none
def makeMapT (P : Program) (n : Nat) (t : TypeId) (r : Option Operand) : Option (T × List Ob) :=
  match r with
  | none => (isIntMap P t).map fun _ => (.mp n, [.mp [] 0])
  | some _ => none
def makeSliceT (P : Program) (S : St) (t : TypeId) (n c : T) : Option (T × List Ob) :=
  (elemOf P t).bind fun e => (szOf P e).bind fun sz => (bytesOf P e).bind fun by_ => (zeroOf P e).bind fun z =>
    match n, c with
    | .c (.v (.int .i64 a)), .c (.v (.int .i64 b)) =>
      if 0 ≤ a ∧ a = b ∧ a ≤ 140737488355328 ∧ a * by_ ≤ 140737488355328 ∧ sz = 1 then
        match z with
        | [.c (.v z)] => some (.sl S.n 0 a.toNat sz (some a.toNat), [.arr (List.replicate a.toNat (.v z)) S.n 1])
        | _ => none
      else none
    | _, _ => none
def fieldAddrT (P : Program) (t : TypeId) (i : Nat) (x : T) : Option T :=
  (fieldOf P t i).bind fun p => (szOf P p.2).bind fun sz =>
    match sz, x with
    | 0, _ => none
    | _ + 1, .pt o off => some (.pt o (off + p.1))
    | _ + 1, .rp q l off => some (.rp q l (off + p.1))
    | _ + 1, .rb l off => some (.rb l (off + p.1))
    | _, _ => none
/-- A part of an aggregate's cells. -/
def partT (P : Program) (t : TypeId) (l : List T) (off : Nat) : Option T :=
  (aggOf P t).bind fun ag => (szOf P t).bind fun sz => if ag then (if off + sz ≤ l.length then some (.agg ((l.drop off).take sz)) else none) else l[off]?
def fieldT (P : Program) (t : TypeId) (i : Nat) (x : T) : Option T :=
  (fieldOf P t i).bind fun p =>
    match x with
    | .agg l => partT P p.2 l p.1
    | _ => none
def indexAddrT (P : Program) (t : TypeId) (x i : T) : Option T :=
  (asI i).bind fun k =>
    match x with
    | .c (.s _ n l) => (elemOf P t).bind fun e => (szOf P e).bind fun sz => if 0 ≤ k ∧ k < (n : Int) then some (.rp true l (k.toNat * sz)) else none
    | .tmp _ n l => (elemOf P t).bind fun e => (szOf P e).bind fun sz => if 0 ≤ k ∧ k < (n : Int) then some (.rp false l (k.toNat * sz)) else none
    | .sl o off n _ _ => (elemOf P t).bind fun e => (szOf P e).bind fun sz => if 0 ≤ k ∧ k < (n : Int) then some (.pt o (off + k.toNat * sz)) else none
    | .pt o off => (arrOf P t).bind fun a => (szOf P a.2).bind fun sz => if 0 ≤ k ∧ k < (a.1 : Int) then some (.pt o (off + k.toNat * sz)) else none
    | .rp q l off => (arrOf P t).bind fun a => (szOf P a.2).bind fun sz => if 0 ≤ k ∧ k < (a.1 : Int) then some (.rp q l (off + k.toNat * sz)) else none
    | .rb l off => (arrOf P t).bind fun a => (szOf P a.2).bind fun sz => if 0 ≤ k ∧ k < (a.1 : Int) then some (.rb l (off + k.toNat * sz)) else none
    | _ => none
def indexT (P : Program) (t : TypeId) (x i : T) : Option T :=
  match x with
  | .agg l => (asI i).bind fun k => (arrOf P t).bind fun a => (szOf P a.2).bind fun sz => if 0 ≤ k ∧ k < (a.1 : Int) then partT P a.2 l (k.toNat * sz) else none
  | .c (.v (.string s)) => (asI i).bind fun k =>
    match P.underlying t with
    | some .string => (if 0 ≤ k then s[k.toNat]? else none).map fun b => .c (.v (.int .u8 b.toNat))
    | _ => none
  | _ => none
/-- A zero value of one cell. -/
def zero1 (P : Program) (t : TypeId) : Option T := (P.info? t).bind fun i => i.zero.map cellT
/-- The entries of a map. -/
def mapOf (S : St) : T → Option (List (Value × C × Nat))
  | .mp p => match obj S.o p with | some (.mp es _) => some es | _ => none
  | .ms es => some es
  | _ => none
def lookupT (P : Program) (S : St) (t : TypeId) (m k : T) (ok : Bool) : Option T :=
  (isIntMap P t).bind fun e => (zero1 P e).bind fun z =>
    match k, z with
    | .c (.v kv), .c z => (mapOf S m).bind fun es => (keyIx kv es 0).map fun r =>
        bif ok then .tup [.c (((r.bind (es[·]?)).map (·.2.1)).getD z), B r.isSome] else .c (((r.bind (es[·]?)).map (·.2.1)).getD z)
    | _, _ => none
def extractT (x : T) (i : Nat) : Option T :=
  match x with
  | .tup l => l[i]?
  | _ => none
def sliceO (P : Program) (S : St) (t : TypeId) (x : T) (lo hi mx : Option T) : Option T :=
  (elemOf P t).bind fun e => (szOf P e).bind fun sz => sliceT S sz x lo hi mx

def St.evP (S : St) (p : Nat × Operand) : Nat × T := (p.1, S.ev p.2)
/-- An operation that writes nothing that is there: its value, what it makes, which groups are not written any more. -/
def opN (E : Env) (cl : FuncId → List T → Option R) (S : St) (o : Oper) : Option (T × List Ob × List Nat) :=
  match o.op with
  | .move x | .assign x => some (S.ev x, [], [])
  | .pick c a b => v0 (pickT (S.ev c) (S.ev a) (S.ev b))
  | .alloc t => v1 (allocT S.n (zeroOf E.P t))
  | .box _ x => v1 (allocT S.n (cellsOf (S.ev x)))
  | .build t ps => v0 (buildT E.P t (ps.toList.map S.evP))
  | .buildSlice t n ps => buildSliceT E.P S t n (ps.toList.map S.evP)
  | .load t a => v0 (loadT E.P S t (S.ev a))
  | .nilCheck x => v0 (nilT (S.ev x))
  | .binOp op xt x y _ => v0 (bin2 E.P op xt x y (S.ev x) (S.ev y))
  | .unOp op _ x => v0 (un1 E.P op (S.ev x))
  | .convert s d x => v0 (conv1 E.P s d (S.ev x))
  | .makeFunc fn first caps => v0 (makeFuncT fn first (caps.toList.map S.ev))
  | .makeMap t r => v1 (makeMapT E.P S.n t r)
  | .makeSlice t n c => v1 (makeSliceT E.P S t (S.ev n) (S.ev c))
  | .slice t x lo hi mx => v0 (sliceO E.P S t (S.ev x) (lo.map S.ev) (hi.map S.ev) (mx.map S.ev))
  | .fieldAddr s x f => v0 (fieldAddrT E.P s f (S.ev x))
  | .field t x f => v0 (fieldT E.P t f (S.ev x))
  | .indexAddr t x i => v0 (indexAddrT E.P t (S.ev x) (S.ev i))
  | .index t x i => v0 (indexT E.P t (S.ev x) (S.ev i))
  | .lookup t m k ok => v0 (lookupT E.P S t (S.ev m) (S.ev k) ok)
  | .extract x i => v0 (extractT (S.ev x) i)
  | .call c =>
    match c.callee with
    | .builtin b => v1 (builtinT E.P S b c.argTypes (c.args.toList.map S.ev))
    | .value f => v1 (callT cl S (S.ev f) (c.args.toList.map S.ev))
    | .invoke .. => none
  | _ => none

/-- The value of one cell. -/
def oneT : T → Bool
  | .junk | .und | .agg _ | .tup _ => false
  | _ => true
def storeT (P : Program) (S : St) (t : TypeId) (a x : T) : Option (List (Nat × Ob)) :=
  (szOf P t).bind fun sz => (cellsOf x).bind fun v =>
    if v.length = sz ∧ v.all oneT = true ∧ 0 < sz then
      match a with
      | .pt p off =>
        match obj S.o p with
        | some (.box l) => if off + sz ≤ l.length then some (setO p (.box (splice l off v)) S.o) else none
        | some (.arr l g gen) =>
          if off + sz ≤ l.length then
            match toCs S v with
            | some (q, []) => some (killG g p (setO p (.arr (splice l off q) g gen) S.o))
            | _ => none
          else none
        | _ => none
      | _ => none
    else none
/-- The entries with one more, or with another value. -/
def putE (es : List (Value × C × Nat)) (cl : Nat) (k : Value) (x : C) : Option Nat → List (Value × C × Nat) × Nat
  | some i => (es.modify i fun y => (y.1, x, y.2.2), cl)
  | none => (es ++ [(k, x, cl)], cl + 1)
def mapUpdateT (P : Program) (S : St) (t : TypeId) (m k x : T) : Option (List (Nat × Ob)) :=
  (isIntMap P t).bind fun _ =>
    match m, k, x with
    | .mp p, .c (.v (.int kk ki)), .c x =>
      match obj S.o p with
      | some (.mp es cl) => (keyIx (.int kk ki) es 0).map fun r => setO p (.mp (putE es cl (.int kk ki) x r).1 (putE es cl (.int kk ki) x r).2) S.o
      | _ => none
    | _, _, _ => none
def opW (E : Env) (S : St) (o : Oper) : Option (List (Nat × Ob)) :=
  match o.op with
  | .store t a x => storeT E.P S t (S.ev a) (S.ev x)
  | .mapUpdate t m k x => mapUpdateT E.P S t (S.ev m) (S.ev k) (S.ev x)
  | _ => none

def frOk : Bool → List Nat → Bool
  | true, _ :: _ => false
  | _, _ => true
def opA (E : Env) (cl : FuncId → List T → Option R) (dr : Bool) (S : St) (o : Oper) : Option St :=
  if isW o.op then (opW E S o).map fun os => St.putO { S with o := os } o.dst .und
  else (opN E cl S o).bind fun r => bif frOk dr r.2.2 then some ((S.add r.2.2 r.2.1).putO o.dst r.1) else none

def gtmp (ops : Array Oper) (g : Nat) : Option Nat := (ops[g]?).bind (·.dst)
/-- One operation of a region, its guard seen to. -/
def opG (E : Env) (cl : FuncId → List T → Option R) (dr : Bool) (ops : Array Oper) (S : St) (o : Oper) (k : St → Option St) : Option St :=
  match o.guard with
  | none => (opA E cl dr S o).bind k
  | some (g, want) =>
    match gtmp ops g with
    | none => none
    | some d =>
      match get S.t d with
      | .c (.v (.bool b)) => bif b
          then (bif want then (opA E cl dr (S.put d (B true)) o).bind k else k ((S.put d (B true)).putO o.dst .und))
          else (bif want then k ((S.put d (B false)).putO o.dst .und) else (opA E cl dr (S.put d (B false)) o).bind k)
      | .und => k (S.putO o.dst .und)
      | _ => none
def tops (E : Env) (cl : FuncId → List T → Option R) (dr : Bool) (ops : Array Oper) : List Oper → St → Option St
  | [], S => some S
  | o :: r, S => opG E cl dr ops S o (tops E cl dr ops r)

def firstId : Code → Nat
  | .region id _ _ => id
  | .seq a _ => firstId a
  | .block _ b => firstId b
  | .loop b => firstId b
  | .scope b => firstId b
  | .cond _ a _ => firstId a
  | _ => 0

/-- Two pointers to two boxes. -/
def boxed (S : St) (o : Nat) : Bool := match obj S.o o with | some (.box _) => true | _ => false
def ptNe (S : St) : T → T → Bool
  | .pt a _, .pt b _ => a != b && boxed S a && boxed S b
  | _, _ => false
def chk (l : List (Nat × Nat)) (S : St) : Bool := l.all fun x => ptNe S (get S.t x.1) (get S.t x.2)
def te (E : Env) (O : Ora) (f : FuncId) : Code → St → Option (Ex × St)
  | .skip, S => some (.nor, S)
  | .region id ops dr, S => (tops E O.call dr ops ops.toList (frzA S (E.fz f id))).bind fun S => if chk (E.nd f id) S = true then some (.nor, S) else none
  | .seq a b, S =>
    match te E O f a S with
    | some (.nor, S) => te E O f b S
    | r => r
  | .cond c a b, S =>
    match S.ev c with
    | .c (.v (.bool q)) =>
      match c with
      | .tmp t => bif q then te E O f a (S.put t (B true)) else te E O f b (S.put t (B false))
      | _ => bif q then te E O f a S else te E O f b S
    | _ => none
  | .block id b, S =>
    match te E O f b S with
    | some (.exit i, S) => if i = id then some (.nor, S) else some (.exit i, S)
    | r => r
  | .loop b, S => O.loop f (firstId b) S
  | .exit id, S => some (.exit id, S)
  | .ret, S => some (.ret, S)
  | _, _ => none

/-- The loops of a code, and one by its first region. -/
def loopsOf : Code → List Code
  | .loop b => b :: loopsOf b
  | .seq a b => loopsOf a ++ loopsOf b
  | .cond _ a b => loopsOf a ++ loopsOf b
  | .block _ b => loopsOf b
  | _ => []
def findLoop (id : Nat) : Code → Option Code
  | .loop b => if firstId b = id then some b else findLoop id b
  | .seq a b => match findLoop id a with | some r => some r | none => findLoop id b
  | .cond _ a b => match findLoop id a with | some r => some r | none => findLoop id b
  | .block _ b => findLoop id b
  | _ => none
/-! What is checked of each function once, by the kernel. -/
def nodupB : List Nat → Bool
  | [] => true
  | x :: l => !l.contains x && nodupB l
/-- For each operation those that come ahead of it in every order, as bits. -/
def ancs : List Oper → List Nat → List Nat
  | [], acc => acc
  | o :: l, acc => ancs l (acc ++ [o.after.toList.foldl (fun s e => if Region.binds .any e then s ||| 2 ^ e.on ||| acc.getD e.on 0 else s) 0])
def isA : Op → Bool
  | .call ⟨.builtin .append, _, _⟩ => true
  | _ => false
def disj (ops : Array Oper) (x y : Oper) : Bool :=
  (match x.dst with | some d => !(y.looksAt ops).contains d && y.dst != some d | none => true) && (match y.dst with | some d => !(x.looksAt ops).contains d | none => true)
/-- What neither reads nor writes the store. -/
def isP : Op → Bool
  | .extract .. | .move _ | .assign _ | .fieldAddr .. | .binOp .. | .unOp .. | .convert .. | .pick .. => true
  | _ => false
def isL : Op → Bool
  | .load _ (.tmp _) => true
  | _ => false
def soft (o : Op) : Bool := isP o || isL o
def still (ops : Array Oper) (k t : Nat) : Bool := (ops.toList.drop k).all fun o => o.dst != some t
/-- A store and a load that may come in any order, if their boxes are two. -/
def apartOk (nd : List (Nat × Nat)) (ops : Array Oper) (k : Nat) (s : Oper) (i : Nat) (l : Oper) : Bool :=
  match s.op, l.op with
  | .store _ (.tmp p) _, .load _ (.tmp q) => s.dst.isNone && nd.contains (p, q) && still ops k p && still ops i q
  | _, _ => false
def pairOk (nd : List (Nat × Nat)) (ops : Array Oper) (mk : List Nat) (i j : Nat) (x y : Oper) : Bool :=
  (mk.getD j 0).testBit i || (!isW x.op && !isW y.op && !(isA x.op && isA y.op) && disj ops x y) ||
    (((isP x.op && isW y.op && y.dst.isNone) || (isW x.op && x.dst.isNone && isP y.op)) && disj ops x y) || ((apartOk nd ops i x j y || apartOk nd ops j y i x) && disj ops x y)
def okDraw (nd : List (Nat × Nat)) (ops : Array Oper) : Bool :=
  let l := ops.toList
  let mk := ancs l []
  l.zipIdx.all fun (y, j) => y.after.toList.all (fun e => !Region.binds .any e || decide (e.on < j)) && l.zipIdx.all fun (x, i) => decide (j ≤ i) || pairOk nd ops mk i j x y
def okCodeN (nd : Nat → List (Nat × Nat)) (m : Nat) : Code → Bool
  | .region id ops dr => (ops.toList.all fun o => match o.dst with | some d => decide (d < m) | none => true) && (!dr || okDraw (nd id) ops)
  | .seq a b => okCodeN nd m a && okCodeN nd m b
  | .cond _ a b => okCodeN nd m a && okCodeN nd m b
  | .block _ b => okCodeN nd m b
  | .loop b => okCodeN nd m b
  | _ => true
def okFuncN (nd : Nat → List (Nat × Nat)) (fn : Func) : Bool :=
  !(fn.name == "runtime.NumGoroutine") && match fn.body with
  | some b => okCodeN nd fn.ntmps b && nodupB ((loopsOf b).map firstId)
  | none => true
/-- The same without any pointers that must be two. -/
abbrev okCode (m : Nat) (c : Code) : Bool := okCodeN (fun _ => []) m c
abbrev okFunc (fn : Func) : Bool := okFuncN (fun _ => []) fn

/-! The store is laid anew: what the kept temporaries reach, under new names. -/
structure Foc where
  ren : List (Nat × Nat)       -- elder names and new ones
  gs : List (Nat × Nat)        -- groups
  o : List (Nat × Ob)          -- the new store
  n : Nat
def look : List (Nat × Nat) → Nat → Option Nat
  | [], _ => none
  | (k, x) :: r, i => if k = i then some x else look r i
def focC (S : St) (dup : Bool) (F : Foc) : T → Option (T × Foc)
  | .sl o off n sz cap =>
    match (if dup then none else look F.ren o) with
    | some o' => some (.sl o' off n sz cap, F)
    | none =>
      match obj S.o o with
      | some (.arr l g gen) =>
        let gen' := if tipOk g gen S.o then min gen 1 else 0
        match look F.gs g with
        | some g' => some (.sl F.n off n sz cap, { F with ren := (o, F.n) :: F.ren, o := F.o ++ [(F.n, .arr l g' gen')], n := F.n + 1 })
        | none => some (.sl F.n off n sz cap, { ren := (o, F.n) :: F.ren, gs := (g, F.n) :: F.gs, o := F.o ++ [(F.n, .arr l F.n gen')], n := F.n + 1 })
      | some (.fz l) => some (.sl F.n off n sz cap, { F with ren := (o, F.n) :: F.ren, o := F.o ++ [(F.n, .fz l)], n := F.n + 1 })
      | _ => none
  | .mp o =>
    match look F.ren o with
    | some o' => some (.mp o', F)
    | none =>
      match obj S.o o with
      | some (.mp es c) => some (.mp F.n, { F with ren := (o, F.n) :: F.ren, o := F.o ++ [(F.n, .mp es c)], n := F.n + 1 })
      | _ => none
  | .pt .. | .agg _ | .tup _ | .fn .. => none
  | x => some (x, F)
def focL (S : St) (dup : Bool) : List T → Foc → Option (List T × Foc)
  | [], F => some ([], F)
  | x :: r, F => (focC S dup F x).bind fun a => (focL S dup r a.2).map fun b => (a.1 :: b.1, b.2)
def focP (S : St) (dup : Bool) (F : Foc) : T → Option (T × Foc)
  | .pt o off =>
    match look F.ren o with
    | some o' => some (.pt o' off, F)
    | none =>
      match obj S.o o with
      | some (.box l) => (focL S dup l F).map fun a => (.pt a.2.n off, { a.2 with ren := (o, a.2.n) :: a.2.ren, o := a.2.o ++ [(a.2.n, .box a.1)], n := a.2.n + 1 })
      | _ => none
  | x => focC S dup F x
def focPs (S : St) (dup : Bool) : List T → Foc → Option (List T × Foc)
  | [], F => some ([], F)
  | x :: r, F => (focP S dup F x).bind fun a => (focPs S dup r a.2).map fun b => (a.1 :: b.1, b.2)
def foc1 (S : St) (dup : Bool) (F : Foc) : T → Option (T × Foc)
  | .agg l => (focL S dup l F).map fun a => (.agg a.1, a.2)
  | .tup l => (focL S dup l F).map fun a => (.tup a.1, a.2)
  | .fn f l => (focPs S dup l F).map fun a => (.fn f a.1, a.2)
  | x => focP S dup F x
def focK (S : St) : Keep → Foc → Option (List (Nat × T) × Foc)
  | [], F => some ([], F)
  | (t, dup) :: r, F => (foc1 S dup F (get S.t t)).bind fun a => (focK S r a.2).map fun b => ((t, a.1) :: b.1, b.2)
def focus (k : Keep) (S : St) : Option St := (focK S k ⟨[], [], [], 0⟩).map fun a => ⟨a.1, a.2.o, a.2.n⟩

/-- What is nil so far, and is appended to later, gets a row of its own: a temporary, or a cell of the box that it points at. -/
def own1 (t : Nat) (i : Option Nat) (sz : Nat) (S : St) : St :=
  match i, get S.t t with
  | none, .c (.s (some 0) 0 []) => ⟨(t, .sl S.n 0 0 sz none) :: S.t, (S.n, .arr [] S.n 1) :: S.o, S.n + 1⟩
  | some i, .pt o _ =>
    match obj S.o o with
    | some (.box l) =>
      match l[i]? with
      | some (.c (.s (some 0) 0 [])) => ⟨S.t, (S.n, .arr [] S.n 1) :: setO o (.box (l.set i (.sl S.n 0 0 sz none))) S.o, S.n + 1⟩
      | _ => S
    | _ => S
  | _, _ => S
def prep : List (Nat × Option Nat × Nat) → St → St
  | [], S => S
  | (t, i, sz) :: r, S => prep r (own1 t i sz S)

def params : Nat → List T → List (Nat × T)
  | _, [] => []
  | i, x :: r => (i, x) :: params (i + 1) r
def resT (P : Program) (S : St) : ResultVar → Option T
  | .tmp t => some (get S.t t)
  | .cell a t => loadT P S t (get S.t a)
def retT (P : Program) (rs : List ResultVar) (tys : List TypeId) (S : St) : Option R :=
  (mapO (resT P S) rs).bind fun l => (mapO (cellTys P 8) tys).bind fun ts =>
    (expT S l ts ([], [])).map fun a => (match a.1 with | [x] => x | l => .tup l, a.2)
def runF (E : Env) (O : Ora) (f : FuncId) (fn : Func) (xs : List T) : Option R :=
  match fn.body with
  | none => none
  | some b =>
    if xs.length ≤ fn.ntmps ∧ okFuncN (E.nd f) fn = true then
    match te E O f b ⟨params 0 xs, [], 0⟩ with
    | some (.nor, S) | some (.ret, S) => retT E.P fn.results.toList fn.resultTypes.toList S
    | _ => none
    else none
/-- One round of a loop and what follows. -/
def runL (E : Env) (O : Ora) (f id : Nat) (again : St → Option (Ex × St)) (S : St) : Option (Ex × St) :=
  (focus (E.kp f id).1 (prep (E.own f id) S)).bind fun S =>
    ((E.P.funcs[f]?).bind fun fn => fn.body.bind (findLoop id)).bind fun b =>
      match te E O f b S with
      | some (.nor, S) => again S
      | some (.exit i, S) => (focus (E.kp f id).2 S).map fun S => (.exit i, S)
      | some (.ret, S) => (focus (E.kr f) S).map fun S => (.ret, S)
      | none => none
def ora (E : Env) (pr : FuncId → List T → Option R) : Nat → Ora
  | 0 => ⟨fun _ _ => none, fun _ _ _ => none⟩
  | n + 1 =>
    ⟨fun f xs => match pr f xs with
        | some r => some r
        | none => (E.P.funcs[f]?).bind fun fn => runF E (ora E pr n) f fn xs,
     fun f id S => runL E (ora E pr n) f id ((ora E pr n).loop f id) S⟩
end Go.Proofs.YtnbijiopcgfmfaaGreat.Tev
/- What a tree stands for in a world; that it goes on to stand for it where the world's old cells stay. -/
namespace Go.Proofs.YtnbijiopcgfmfaaGreat.Tev
open Go Go.RowKit
set_option linter.unusedSectionVars false
set_option linter.unusedSimpArgs false
set_option linter.unusedVariables false

/-- The world, the blocks that nobody writes any more, where this call's own blocks begin, the names' places. -/
structure Ctx where
  w : World
  F : Nat → Prop
  base : Nat
  σ : Nat → Option (Option (Nat × Nat))

def exact? (cap : Option Nat) (c : Nat) : Prop := ∀ k, cap = some k → c = k

mutual
def RC (w : World) (F : Nat → Prop) : C → Value → Prop
  | .v x, u => u = x ∧ flat x = true
  | .s cap n l, u => ∃ A c, u = .slice A n c ∧ n ≤ c ∧ exact? cap c ∧ ((n = 0 ∧ l = []) ∨ ∃ b o, A = some ⟨b, o, none⟩ ∧ F b ∧ RCs w F b o l)
def RCs (w : World) (F : Nat → Prop) (b : Nat) : Nat → List C → Prop
  | _, [] => True
  | o, x :: l => (∃ u, w.cell? ⟨b, o, none⟩ = some u ∧ RC w F x u) ∧ RCs w F b (o + 1) l
end

def REs (w : World) (F : Nat → Prop) : List (Value × C × Nat) → List MapEntry → Prop
  | [], es => es = []
  | x :: l, es => ∃ e r, es = e :: r ∧ e.key = x.1 ∧ RC w F x.2.1 e.val ∧ e.born = x.2.2 ∧ REs w F l r

def RU (K : Ctx) : U → Value → Prop
  | .c x, u => RC K.w K.F x u
  | .junk, _ => True
  | .tmp cap n l, u => ∃ A c, u = .slice A n c ∧ n ≤ c ∧ exact? cap c ∧ ((n = 0 ∧ l = []) ∨ ∃ b o, A = some ⟨b, o, none⟩ ∧ b < K.base ∧ RCs K.w K.F b o l)
  | .rp p l off, u => ∃ b s, u = .pointer (some ⟨b, s + off, none⟩) ∧ (if p = true then K.F b else b < K.base) ∧ RCs K.w K.F b s l
  | .ms es, u => ∃ b ents cl, u = .map (some b) ∧ b < K.base ∧ K.w.heap[b]? = some (.map ents cl) ∧ REs K.w K.F es ents.toList
def RBs (K : Ctx) (b : Nat) : Nat → List U → Prop
  | _, [] => True
  | o, x :: l => (∃ u, K.w.cell? ⟨b, o, none⟩ = some u ∧ RU K x u) ∧ RBs K b (o + 1) l
mutual
def RT (K : Ctx) : T → Value → Prop
  | .c x, u => RC K.w K.F x u
  | .und, u => u = undef
  | .junk, _ => True
  | .agg l, u => ∃ cs : List Value, u = .agg cs.toArray ∧ RTs K l cs
  | .tup l, u => ∃ cs : List Value, u = .tuple cs.toArray ∧ RTs K l cs
  | .tmp cap n l, u => ∃ A c, u = .slice A n c ∧ n ≤ c ∧ exact? cap c ∧ ((n = 0 ∧ l = []) ∨ ∃ b o, A = some ⟨b, o, none⟩ ∧ b < K.base ∧ RCs K.w K.F b o l)
  | .sl o off n sz cap, u => ∃ A c, u = .slice A n c ∧ n ≤ c ∧ exact? cap c ∧
      ((c = 0 ∧ ∃ s, K.σ o = some s) ∨ ∃ b sh, K.σ o = some (some (b, sh)) ∧ A = some ⟨b, sh + off, none⟩ ∧ ∃ cs e fr, K.w.heap[b]? = some (.cells cs e fr) ∧ sh + off + c * sz ≤ cs.size)
  | .pt o off, u => ∃ b sh, K.σ o = some (some (b, sh)) ∧ u = .pointer (some ⟨b, sh + off, none⟩)
  | .rp p l off, u => ∃ b s, u = .pointer (some ⟨b, s + off, none⟩) ∧ (if p = true then K.F b else b < K.base) ∧ RCs K.w K.F b s l
  | .rb l off, u => ∃ b, u = .pointer (some ⟨b, off, none⟩) ∧ b < K.base ∧ RBs K b 0 l
  | .fn f l, u => ∃ cs : List Value, u = .func (.func f) #[] cs.toArray ∧ RTs K l cs
  | .mp o, u => ∃ b sh, K.σ o = some (some (b, sh)) ∧ u = .map (some b)
  | .ms es, u => ∃ b ents cl, u = .map (some b) ∧ b < K.base ∧ K.w.heap[b]? = some (.map ents cl) ∧ REs K.w K.F es ents.toList
def RTs (K : Ctx) : List T → List Value → Prop
  | [], us => us = []
  | x :: l, us => ∃ u vs, us = u :: vs ∧ RT K x u ∧ RTs K l vs
end
theorem RU_toT {K : Ctx} {x : U} {u : Value} : RT K x.toT u ↔ RU K x u := by cases x <;> simp only [U.toT, RT, RU]

/-- An object and its place. -/
def RO (K : Ctx) (s : Option (Nat × Nat)) : Ob → Prop
  | .box l => ∃ b cs e, s = some (b, 0) ∧ ¬ K.F b ∧ K.base ≤ b ∧ K.w.heap[b]? = some (.cells cs e (0, 0)) ∧ RTs K l cs.toList
  | .arr l _ _ => (s = none ∧ l = []) ∨ ∃ b sh cs e, s = some (b, sh) ∧ ¬ K.F b ∧ K.base ≤ b ∧ K.w.heap[b]? = some (.cells cs e (0, 0)) ∧ RCs K.w K.F b sh l
  | .fz l => (s = none ∧ l = []) ∨ ∃ b sh, s = some (b, sh) ∧ K.F b ∧ RCs K.w K.F b sh l
  | .mp es cl => ∃ b ents, s = some (b, 0) ∧ ¬ K.F b ∧ K.base ≤ b ∧ K.w.heap[b]? = some (.map ents cl) ∧ REs K.w K.F es ents.toList ∧ (∀ x ∈ es, x.2.2 < cl)
  | .dead => True

/-- The old goes on to stand. -/
structure KExt (K K' : Ctx) : Prop where
  base : K'.base = K.base
  F : ∀ b, K.F b → K'.F b
  σ : ∀ o s, K.σ o = some s → K'.σ o = some s
  kept : ∀ b : Nat, K.F b ∨ b < K.base → K'.w.heap[b]? = K.w.heap[b]?
  sizes : ∀ (b : Nat) (cs : Array Value) (e : TypeId) (fr : Nat × Nat), K.w.heap[b]? = some (Obj.cells cs e fr) → ∃ cs' e' fr', K'.w.heap[b]? = some (Obj.cells cs' e' fr') ∧ cs'.size = cs.size

theorem KExt.refl (K : Ctx) : KExt K K := ⟨rfl, fun _ h => h, fun _ _ h => h, fun _ _ => rfl, fun _ cs e fr h => ⟨cs, e, fr, h, rfl⟩⟩
theorem KExt.trans {K K' K'' : Ctx} (h : KExt K K') (g : KExt K' K'') : KExt K K'' :=
  ⟨g.base.trans h.base, fun b hb => g.F b (h.F b hb), fun o s hs => g.σ o s (h.σ o s hs),
   fun b hb => (g.kept b (hb.imp (h.F b) (fun x => by rw [h.base]; exact x))).trans (h.kept b hb),
   fun b cs e fr hh => by
    obtain ⟨cs', e', fr', h1, h2⟩ := h.sizes b cs e fr hh
    obtain ⟨cs'', e'', fr'', h3, h4⟩ := g.sizes b cs' e' fr' h1
    exact ⟨cs'', e'', fr'', h3, h4.trans h2⟩⟩

theorem cell_of_heap {w w' : World} {b : Nat} (h : w'.heap[b]? = w.heap[b]?) (o : Nat) : w'.cell? ⟨b, o, none⟩ = w.cell? ⟨b, o, none⟩ := by
  unfold World.cell?; rw [h]

mutual
theorem RC.mono {w w' : World} {F F' : Nat → Prop} (hF : ∀ b, F b → F' b) (hk : ∀ b : Nat, F b → w'.heap[b]? = w.heap[b]?) : ∀ (x : C) (u : Value), RC w F x u → RC w' F' x u
  | .v x, u, h => by simpa only [RC] using h
  | .s cap n l, u, h => by
    simp only [RC] at h ⊢
    obtain ⟨A, c, h1, h2, h3, h4⟩ := h
    refine ⟨A, c, h1, h2, h3, h4.imp id ?_⟩
    rintro ⟨b, o, e, hb, hl⟩
    exact ⟨b, o, e, hF b hb, RCs.mono hF hk b (hk b hb) o l hl⟩
theorem RCs.mono {w w' : World} {F F' : Nat → Prop} (hF : ∀ b, F b → F' b) (hk : ∀ b : Nat, F b → w'.heap[b]? = w.heap[b]?) (b : Nat) (hb : w'.heap[b]? = w.heap[b]?) : ∀ (o : Nat) (l : List C), RCs w F b o l → RCs w' F' b o l
  | _, [], _ => by simp only [RCs]
  | o, x :: l, h => by
    simp only [RCs] at h ⊢
    obtain ⟨⟨u, h1, h2⟩, h3⟩ := h
    exact ⟨⟨u, (cell_of_heap hb o).trans h1, RC.mono hF hk x u h2⟩, RCs.mono hF hk b hb (o + 1) l h3⟩
end

theorem REs.mono {w w' : World} {F F' : Nat → Prop} (hF : ∀ b, F b → F' b) (hk : ∀ b : Nat, F b → w'.heap[b]? = w.heap[b]?) : ∀ (l : List (Value × C × Nat)) (es : List MapEntry), REs w F l es → REs w' F' l es
  | [], es, h => by simpa only [REs] using h
  | x :: l, es, h => by
    simp only [REs] at h ⊢
    obtain ⟨e, r, h1, h2, h3, h4, h5⟩ := h
    exact ⟨e, r, h1, h2, RC.mono hF hk _ _ h3, h4, REs.mono hF hk l r h5⟩
theorem RU.mono {K K' : Ctx} (h : KExt K K') : ∀ (x : U) (u : Value), RU K x u → RU K' x u
  | .c x, u, r => by simp only [RU] at r ⊢; exact RC.mono h.F (fun b hb => h.kept b (.inl hb)) x u r
  | .junk, u, r => by simp only [RU]
  | .tmp cap n l, u, r => by
    simp only [RU] at r ⊢
    obtain ⟨A, c, h1, h2, h3, h4⟩ := r
    refine ⟨A, c, h1, h2, h3, h4.imp id ?_⟩
    rintro ⟨b, o, e, hb, hl⟩
    exact ⟨b, o, e, by rw [h.base]; exact hb, RCs.mono h.F (fun b hb => h.kept b (.inl hb)) b (h.kept b (.inr hb)) o l hl⟩
  | .rp p l off, u, r => by
    simp only [RU] at r ⊢
    obtain ⟨b, s, h1, h2, h3⟩ := r
    refine ⟨b, s, h1, ?_, ?_⟩
    · cases p <;> simp only [Bool.false_eq_true, if_false, if_true] at h2 ⊢
      · rw [h.base]; exact h2
      · exact h.F b h2
    · refine RCs.mono h.F (fun b hb => h.kept b (.inl hb)) b (h.kept b ?_) s l h3
      cases p <;> simp only [Bool.false_eq_true, if_false, if_true] at h2
      · exact .inr h2
      · exact .inl h2
  | .ms es, u, r => by
    simp only [RU] at r ⊢
    obtain ⟨b, ents, cl, h1, h2, h3, h4⟩ := r
    exact ⟨b, ents, cl, h1, by rw [h.base]; exact h2, (h.kept b (.inr h2)).trans h3, REs.mono h.F (fun b hb => h.kept b (.inl hb)) _ _ h4⟩
theorem RBs.mono {K K' : Ctx} (h : KExt K K') (b : Nat) (hb : K'.w.heap[b]? = K.w.heap[b]?) : ∀ (o : Nat) (l : List U), RBs K b o l → RBs K' b o l
  | _, [], _ => by simp only [RBs]
  | o, x :: l, r => by
    simp only [RBs] at r ⊢
    obtain ⟨⟨u, h1, h2⟩, h3⟩ := r
    exact ⟨⟨u, (cell_of_heap hb o).trans h1, RU.mono h x u h2⟩, RBs.mono h b hb (o + 1) l h3⟩
mutual
theorem RT.mono {K K' : Ctx} (h : KExt K K') : ∀ (x : T) (u : Value), RT K x u → RT K' x u
  | .c x, u, r => by simp only [RT] at r ⊢; exact RC.mono h.F (fun b hb => h.kept b (.inl hb)) x u r
  | .und, u, r => by simpa only [RT] using r
  | .junk, u, r => by simp only [RT]
  | .agg l, u, r => by simp only [RT] at r ⊢; obtain ⟨cs, e, hl⟩ := r; exact ⟨cs, e, RTs.mono h l cs hl⟩
  | .tup l, u, r => by simp only [RT] at r ⊢; obtain ⟨cs, e, hl⟩ := r; exact ⟨cs, e, RTs.mono h l cs hl⟩
  | .tmp cap n l, u, r => by
    simp only [RT] at r ⊢
    obtain ⟨A, c, h1, h2, h3, h4⟩ := r
    refine ⟨A, c, h1, h2, h3, h4.imp id ?_⟩
    rintro ⟨b, o, e, hb, hl⟩
    exact ⟨b, o, e, by rw [h.base]; exact hb, RCs.mono h.F (fun b hb => h.kept b (.inl hb)) b (h.kept b (.inr hb)) o l hl⟩
  | .sl o off n sz cap, u, r => by
    simp only [RT] at r ⊢
    obtain ⟨A, c, h1, h2, h3, h4⟩ := r
    refine ⟨A, c, h1, h2, h3, ?_⟩
    rcases h4 with ⟨h4, s, h5⟩ | ⟨b, sh, h4, h5, cs, e, fr, h6, h7⟩
    · exact .inl ⟨h4, s, h.σ _ _ h5⟩
    · obtain ⟨cs', e', fr', h8, h9⟩ := h.sizes b cs e fr h6
      exact .inr ⟨b, sh, h.σ _ _ h4, h5, cs', e', fr', h8, by omega⟩
  | .pt o off, u, r => by simp only [RT] at r ⊢; obtain ⟨b, sh, h1, h2⟩ := r; exact ⟨b, sh, h.σ _ _ h1, h2⟩
  | .rp p l off, u, r => by
    simp only [RT] at r ⊢
    obtain ⟨b, s, h1, h2, h3⟩ := r
    refine ⟨b, s, h1, ?_, ?_⟩
    · cases p <;> simp only [Bool.false_eq_true, if_false, if_true] at h2 ⊢
      · rw [h.base]; exact h2
      · exact h.F b h2
    · refine RCs.mono h.F (fun b hb => h.kept b (.inl hb)) b (h.kept b ?_) s l h3
      cases p <;> simp only [Bool.false_eq_true, if_false, if_true] at h2
      · exact .inr h2
      · exact .inl h2
  | .rb l off, u, r => by
    simp only [RT] at r ⊢
    obtain ⟨b, h1, h2, h3⟩ := r
    exact ⟨b, h1, by rw [h.base]; exact h2, RBs.mono h b (h.kept b (.inr h2)) 0 l h3⟩
  | .fn f l, u, r => by simp only [RT] at r ⊢; obtain ⟨cs, e, hl⟩ := r; exact ⟨cs, e, RTs.mono h l cs hl⟩
  | .mp o, u, r => by simp only [RT] at r ⊢; obtain ⟨b, sh, h1, h2⟩ := r; exact ⟨b, sh, h.σ _ _ h1, h2⟩
  | .ms es, u, r => by
    simp only [RT] at r ⊢
    obtain ⟨b, ents, cl, h1, h2, h3, h4⟩ := r
    exact ⟨b, ents, cl, h1, by rw [h.base]; exact h2, (h.kept b (.inr h2)).trans h3, REs.mono h.F (fun b hb => h.kept b (.inl hb)) _ _ h4⟩
theorem RTs.mono {K K' : Ctx} (h : KExt K K') : ∀ (l : List T) (us : List Value), RTs K l us → RTs K' l us
  | [], us, r => by simpa only [RTs] using r
  | x :: l, us, r => by
    simp only [RTs] at r ⊢
    obtain ⟨u, vs, e, h1, h2⟩ := r
    exact ⟨u, vs, e, RT.mono h x u h1, RTs.mono h l vs h2⟩
end
/-- An object whose block stays. -/
theorem RO.mono {K K' : Ctx} (h : KExt K K') {s : Option (Nat × Nat)} {x : Ob} (hF : ∀ b sh, s = some (b, sh) → ¬ K.F b → ¬ K'.F b) (hb : ∀ (b sh : Nat), s = some (b, sh) → K'.w.heap[b]? = K.w.heap[b]?) (r : RO K s x) : RO K' s x := by
  cases x with
  | box l =>
    simp only [RO] at r ⊢
    obtain ⟨b, cs, e, h1, h2, h3, h4, h5⟩ := r
    exact ⟨b, cs, e, h1, hF b 0 h1 h2, by rw [h.base]; exact h3, (hb b 0 h1).trans h4, RTs.mono h _ _ h5⟩
  | arr l g gen =>
    simp only [RO] at r ⊢
    refine r.imp id ?_
    rintro ⟨b, sh, cs, e, h1, h2, h3, h4, h5⟩
    exact ⟨b, sh, cs, e, h1, hF b sh h1 h2, by rw [h.base]; exact h3, (hb b sh h1).trans h4, RCs.mono h.F (fun b hb => h.kept b (.inl hb)) b (hb b sh h1) _ _ h5⟩
  | fz l =>
    simp only [RO] at r ⊢
    refine r.imp id ?_
    rintro ⟨b, sh, h1, h2, h3⟩
    exact ⟨b, sh, h1, h.F b h2, RCs.mono h.F (fun b hb => h.kept b (.inl hb)) b (hb b sh h1) _ _ h3⟩
  | mp es cl =>
    simp only [RO] at r ⊢
    obtain ⟨b, ents, h1, h2, h3, h4, h5, h6⟩ := r
    exact ⟨b, ents, h1, hF b 0 h1 h2, by rw [h.base]; exact h3, (hb b 0 h1).trans h4, REs.mono h.F (fun b hb => h.kept b (.inl hb)) _ _ h5, h6⟩
  | dead => simp only [RO]
end Go.Proofs.YtnbijiopcgfmfaaGreat.Tev
/- Each operation that writes nothing old does in the world what the evaluator says of it. -/
namespace Go.Proofs.YtnbijiopcgfmfaaGreat.Tev
open Go Go.RowKit
set_option linter.unusedSectionVars false
set_option linter.unusedVariables false
set_option linter.unusedSimpArgs false

/-- What an operation has done: a value, new objects, blocks that are not written any more. wr: the one old block that has grown, and from where on. -/
structure Step (K : Ctx) (n : Nat) (ob : Nat → Option Ob) (x : T) (nw : List Ob) (fz : List Nat) (K' : Ctx) (val : Value) : Prop where
  ext : KExt K K'
  below : Below K.base K.w K'.w
  val : RT K' x val
  new : ∀ i y, nw[i]? = some y → ∃ s, K'.σ (n + i) = some s ∧ RO K' s y
  dom : ∀ o s, K'.σ o = some s → K.σ o = some s ∨ ∃ i, i < nw.length ∧ o = n + i
  F : ∀ b, K'.F b → K.F b ∨ (K.w.heap.size ≤ b ∧ b < K'.w.heap.size) ∨ ∃ o l g e sh, ob o = some (.arr l g e) ∧ g ∈ fz ∧ K.σ o = some (some (b, sh))
  frz : ∀ o l g e b sh, ob o = some (.arr l g e) → g ∈ fz → K.σ o = some (some (b, sh)) → K'.F b
  place : ∀ i b sh, i < nw.length → K'.σ (n + i) = some (some (b, sh)) → (K.w.heap.size ≤ b ∧ ¬ K'.F b) ∨
    ∃ o l l' g gen, fz = [] ∧ nw = [.arr l' g (gen + 1)] ∧ ob o = some (.arr l g gen) ∧ 0 < gen ∧ K.σ o = some (some (b, sh)) ∧ l.length ≤ l'.length
  apart : ∀ i j b sh sh', i < nw.length → j < nw.length → K'.σ (n + i) = some (some (b, sh)) → K'.σ (n + j) = some (some (b, sh')) → i = j
  kept : (∀ b, b < K.w.heap.size → K'.w.heap[b]? = K.w.heap[b]?) ∨
    ∃ o l l' g gen b sh cs cs' e, fz = [] ∧ nw = [.arr l' g (gen + 1)] ∧ ob o = some (.arr l g gen) ∧ 0 < gen ∧ K.σ o = some (some (b, sh)) ∧
      (∀ c, c < K.w.heap.size → c ≠ b → K'.w.heap[c]? = K.w.heap[c]?) ∧ K.w.heap[b]? = some (.cells cs e (0, 0)) ∧ K'.w.heap[b]? = some (.cells cs' e (0, 0)) ∧
      (∀ i, i < sh + l.length → cs'[i]? = cs[i]?)

theorem Step.same {K : Ctx} {n : Nat} {ob : Nat → Option Ob} {x : T} {val : Value} (h : RT K x val) : Step K n ob x [] [] K val where
  ext := .refl K
  below := Below.refl _ _
  val := h
  new := fun i y h => by simp at h
  dom := fun o s h => .inl h
  F := fun b h => .inl h
  frz := fun o l g e b sh _ h => by simp at h
  place := fun i b sh h => by simp at h
  apart := fun i j b sh sh' h => by simp at h
  kept := .inl fun b _ => rfl

/-- The operation runs to a value, or into a call that comes back. -/
def Does (P : Program) (K : Ctx) (n : Nat) (ob : Nat → Option Ob) (a : Act) (o : Oper) (x : T) (nw : List Ob) (fz : List Nat) : Prop :=
  (∃ val K', (execOp a.eval o).run P K.w = .ok (.value val) K'.w ∧ Step K n ob x nw fz K' val) ∨
  (∃ f args, (execOp a.eval o).run P K.w = .ok (.enter f args) K.w ∧
    Calls P f args K.w fun e w' => ∃ val K', e = .returned val ∧ K'.w = w' ∧ Step K n ob x nw fz K' val)

theorem Does.wp {P : Program} {K : Ctx} {n : Nat} {ob : Nat → Option Ob} {a : Act} {o : Oper} {x : T} {nw : List Ob} {fz : List Nat} {next : Act → World → Prop} {Q : Exit → Act → World → Prop}
    (h : Does P K n ob a o x nw fz) (hn : ∀ val K', Step K n ob x nw fz K' val → next (a.put o.dst val) K'.w) : o.wp P a K.w next Q := by
  unfold Oper.wp
  rcases h with ⟨val, K', hr, hs⟩ | ⟨f, args, hr, hc⟩
  · rw [hr]; exact hn val K' hs
  · rw [hr, Oper.upon_enter]
    refine hc.mono ?_
    rintro e w' ⟨val, K', rfl, rfl, hs⟩
    exact hn val K' hs

theorem peel_run {P : Program} {α : Type} : ∀ (e : Sem α) (v : α), peel P e = some v → ∀ w, e.run P w = .ok v w
  | .pure a, v, h, w => by simp only [peel] at h; obtain rfl := Option.some.inj h; rfl
  | .program k, v, h, w => by simp only [peel] at h; exact peel_run (k P) v h w
  | .mark m k, v, h, w => by simp only [peel] at h; exact peel_run k v h w
  | .load .., v, h, w => by simp [peel] at h
  | .store .., v, h, w => by simp [peel] at h
  | .new .., v, h, w => by simp [peel] at h
  | .shape .., v, h, w => by simp [peel] at h
  | .freeze .., v, h, w => by simp [peel] at h
  | .frozen .., v, h, w => by simp [peel] at h
  | .getObj .., v, h, w => by simp [peel] at h
  | .setObj .., v, h, w => by simp [peel] at h
  | .choose .., v, h, w => by simp [peel] at h
  | .sys .., v, h, w => by simp [peel] at h
  | .halt .., v, h, w => by simp [peel] at h

theorem RT_cellT (K : Ctx) (v : Value) : RT K (cellT v) v := by
  unfold cellT
  split
  · simp only [RT, RC]; exact ⟨none, 0, rfl, Nat.le_refl _, fun k h => by cases h; rfl, .inl ⟨trivial, trivial⟩⟩
  · simp [RT, RC, flat]
  · simp [RT, RC, flat]
  · simp [RT, RC, flat]
  · simp [RT, RC, flat]
  · simp only [RT]
theorem RTs_cellT (K : Ctx) : ∀ l : List Value, RTs K (l.map cellT) l
  | [] => by simp only [List.map_nil, RTs]
  | v :: l => by simp only [List.map_cons, RTs]; exact ⟨v, l, rfl, RT_cellT K v, RTs_cellT K l⟩
theorem RT_constT (K : Ctx) (v : Value) : RT K (constT v) v := by
  unfold constT
  split
  · rename_i cs
    simp only [RT]
    exact ⟨cs.toList, by simp, RTs_cellT K _⟩
  · exact RT_cellT K v
/-- What a temporary holds, all are told. -/
theorem RT_ev {K : Ctx} {S : St} {a : Act} {x : Operand} (h : ∀ t, x = .tmp t → RT K (get S.t t) (a.tmps.getD t undef)) : RT K (S.ev x) (a.eval x) := by
  cases x with
  | tmp t => exact h t rfl
  | const v => exact RT_constT K v
  | global g => simp only [St.ev, RT]
  | func f => simp only [St.ev, Act.eval, RT]; exact ⟨[], rfl, by simp only [RTs]⟩

theorem RT_int {K : Ctx} {k : IntKind} {n : Int} {u : Value} (h : RT K (.c (.v (.int k n))) u) : u = .int k n := by simp only [RT, RC] at h; exact h.1
theorem RT_v {K : Ctx} {v u : Value} (h : RT K (.c (.v v)) u) : u = v := by simp only [RT, RC] at h; exact h.1
theorem RT_ofV {K : Ctx} {v : Value} {x : T} (h : ofV v = some x) : RT K x v := by
  unfold ofV at h
  split at h
  · rename_i hf; obtain rfl := Option.some.inj h; simp only [RT, RC]; exact ⟨trivial, hf⟩
  · simp at h

theorem RTs_length {K : Ctx} : ∀ (l : List T) (us : List Value), RTs K l us → us.length = l.length
  | [], us, h => by simp only [RTs] at h; subst h; rfl
  | x :: l, us, h => by simp only [RTs] at h; obtain ⟨u, vs, rfl, _, h2⟩ := h; simp [RTs_length l vs h2]
theorem RTs_get {K : Ctx} : ∀ (l : List T) (us : List Value) (i : Nat) (x : T), RTs K l us → l[i]? = some x → ∃ u, us[i]? = some u ∧ RT K x u
  | [], us, i, x, h, hi => by simp at hi
  | y :: l, us, i, x, h, hi => by
    simp only [RTs] at h
    obtain ⟨u, vs, rfl, h1, h2⟩ := h
    cases i with
    | zero => simp at hi; subst hi; exact ⟨u, rfl, h1⟩
    | succ i => simp at hi; simpa using RTs_get l vs i x h2 hi
theorem RTs_mk {K : Ctx} : ∀ (l : List T) (us : List Value), us.length = l.length → (∀ (i : Nat) (x : T) (u : Value), l[i]? = some x → us[i]? = some u → RT K x u) → RTs K l us
  | [], us, h, _ => by simp only [RTs]; exact List.length_eq_zero_iff.1 h
  | x :: l, us, h, hh => by
    cases us with
    | nil => simp at h
    | cons u us =>
      simp only [RTs]
      exact ⟨u, us, rfl, hh 0 x u rfl rfl, RTs_mk l us (by simpa using h) fun i y v hy hv => hh (i + 1) y v (by simpa using hy) (by simpa using hv)⟩
theorem RTs_append {K : Ctx} {l l' : List T} {us us' : List Value} (h : RTs K l us) (h' : RTs K l' us') : RTs K (l ++ l') (us ++ us') := by
  refine RTs_mk _ _ (by simp [RTs_length _ _ h, RTs_length _ _ h']) fun i x u hx hu => ?_
  have hl := RTs_length _ _ h
  by_cases hi : i < l.length
  · rw [List.getElem?_append_left hi] at hx
    rw [List.getElem?_append_left (by omega)] at hu
    obtain ⟨v, hv, r⟩ := RTs_get _ _ i x h hx
    rw [hv] at hu; obtain rfl := Option.some.inj hu; exact r
  · rw [List.getElem?_append_right (by omega)] at hx
    rw [List.getElem?_append_right (by omega)] at hu
    obtain ⟨v, hv, r⟩ := RTs_get _ _ _ x h' hx
    rw [hl] at hu
    rw [hv] at hu; obtain rfl := Option.some.inj hu; exact r
theorem RTs_take {K : Ctx} {l : List T} {us : List Value} (h : RTs K l us) (n : Nat) : RTs K (l.take n) (us.take n) := by
  have hl := RTs_length _ _ h
  refine RTs_mk _ _ (by simp [hl]) fun i x u hx hu => ?_
  rw [List.getElem?_take] at hx hu
  split at hx
  · rename_i hi
    rw [if_pos hi] at hu
    obtain ⟨v, hv, r⟩ := RTs_get _ _ i x h hx
    rw [hv] at hu; obtain rfl := Option.some.inj hu; exact r
  · simp at hx
theorem RTs_drop {K : Ctx} {l : List T} {us : List Value} (h : RTs K l us) (n : Nat) : RTs K (l.drop n) (us.drop n) := by
  have hl := RTs_length _ _ h
  refine RTs_mk _ _ (by simp [hl]) fun i x u hx hu => ?_
  rw [List.getElem?_drop] at hx hu
  obtain ⟨v, hv, r⟩ := RTs_get _ _ _ x h hx
  rw [hv] at hu; obtain rfl := Option.some.inj hu; exact r
theorem RTs_splice {K : Ctx} {l v : List T} {us vs : List Value} (h : RTs K l us) (h' : RTs K v vs) (off : Nat) : RTs K (splice l off v) (splice us off vs) := by
  unfold splice
  rw [RTs_length _ _ h']
  exact RTs_append (RTs_append (RTs_take h off) h') (RTs_drop h _)

theorem cellsOf_sound {K : Ctx} {x : T} {l : List T} {u : Value} (h : cellsOf x = some l) (r : RT K x u) : RTs K l u.cells.toList := by
  have one : u.cells = #[u] → [x] = l → RTs K l u.cells.toList := fun e e' => by
    subst e'; rw [e]; simp only [RTs]; exact ⟨u, [], rfl, r, rfl⟩
  cases x with
  | agg l' =>
    simp only [cellsOf, Option.some.injEq] at h; subst h
    simp only [RT] at r; obtain ⟨cs, rfl, hl⟩ := r; simpa [Value.cells] using hl
  | junk => simp [cellsOf] at h
  | und => simp [cellsOf] at h
  | tup => simp [cellsOf] at h
  | c y =>
    simp only [cellsOf, Option.some.injEq] at h
    refine one ?_ h
    cases y with
    | v v => simp only [RT, RC] at r; obtain ⟨rfl, hf⟩ := r; cases u <;> first | rfl | (simp [flat] at hf)
    | s => simp only [RT, RC] at r; obtain ⟨A, c, rfl, _⟩ := r; rfl
  | tmp => simp only [cellsOf, Option.some.injEq] at h; simp only [RT] at r; obtain ⟨A, c, rfl, _⟩ := id r; exact one rfl h
  | sl => simp only [cellsOf, Option.some.injEq] at h; simp only [RT] at r; obtain ⟨A, c, rfl, _⟩ := id r; exact one rfl h
  | pt => simp only [cellsOf, Option.some.injEq] at h; simp only [RT] at r; obtain ⟨b, sh, _, rfl⟩ := id r; exact one rfl h
  | rp => simp only [cellsOf, Option.some.injEq] at h; simp only [RT] at r; obtain ⟨b, sh, rfl, _⟩ := id r; exact one rfl h
  | rb => simp only [cellsOf, Option.some.injEq] at h; simp only [RT] at r; obtain ⟨b, rfl, _⟩ := id r; exact one rfl h
  | fn => simp only [cellsOf, Option.some.injEq] at h; simp only [RT] at r; obtain ⟨b, rfl, _⟩ := id r; exact one rfl h
  | mp => simp only [cellsOf, Option.some.injEq] at h; simp only [RT] at r; obtain ⟨b, sh, _, rfl⟩ := id r; exact one rfl h
  | ms => simp only [cellsOf, Option.some.injEq] at h; simp only [RT] at r; obtain ⟨b, _, _, rfl, _⟩ := id r; exact one rfl h

/-! A new block. -/
def Ctx.alloc (K : Ctx) (n : Nat) (o : Obj) : Ctx := { K with w := K.w.alloc o, σ := fun m => if m = n then some (some (K.w.heap.size, 0)) else K.σ m }
theorem heap_alloc_lt (w : World) (o : Obj) (b : Nat) (h : b < w.heap.size) : (w.alloc o).heap[b]? = w.heap[b]? := Below.heap_alloc w o b h
theorem heap_alloc_new (w : World) (o : Obj) : (w.alloc o).heap[w.heap.size]? = some o := by show (w.heap.push o)[w.heap.size]? = some o; simp
theorem heap_lt {w : World} {b : Nat} {o : Obj} (h : w.heap[b]? = some o) : b < w.heap.size := by
  rcases Nat.lt_or_ge b w.heap.size with h' | h'
  · exact h'
  · simp [Array.getElem?_eq_none h'] at h
structure Good (K : Ctx) : Prop where
  F : ∀ b, K.F b → b < K.w.heap.size
  base : K.base ≤ K.w.heap.size
theorem KExt.alloc {K : Ctx} (hg : Good K) (n : Nat) (o : Obj) (hn : K.σ n = none) : KExt K (K.alloc n o) where
  base := rfl
  F := fun b h => h
  σ := fun m s h => by
    show (if m = n then _ else K.σ m) = _
    split
    · rename_i e; subst e; rw [hn] at h; simp at h
    · exact h
  kept := fun b h => heap_alloc_lt _ _ _ (h.elim (hg.F b) fun h => Nat.lt_of_lt_of_le h hg.base)
  sizes := fun b cs e fr h => ⟨cs, e, fr, (heap_alloc_lt _ _ _ (heap_lt h)).trans h, rfl⟩
theorem Step.alloc {K : Ctx} (hg : Good K) {n : Nat} {ob : Nat → Option Ob} (hn : K.σ n = none) (o : Obj) {x : T} {y : Ob} {val : Value}
    (hx : RT (K.alloc n o) x val) (hy : RO (K.alloc n o) (some (K.w.heap.size, 0)) y) : Step K n ob x [y] [] (K.alloc n o) val where
  ext := .alloc hg n o hn
  below := (Below.refl _ _).alloc hg.base o
  val := hx
  new := fun i z h => by
    cases i with
    | zero => simp at h; subst h; exact ⟨_, by simp [Ctx.alloc], hy⟩
    | succ i => simp at h
  dom := fun m s h => by
    have h' : (if m = n then some (some (K.w.heap.size, 0)) else K.σ m) = some s := h
    split at h'
    · rename_i e; exact .inr ⟨0, by simp, by simpa using e⟩
    · exact .inl h'
  F := fun b h => .inl h
  frz := fun o l g e b sh _ h => by simp at h
  place := fun i b sh hi h => by
    have : i = 0 := by simp at hi; omega
    subst this
    simp [Ctx.alloc] at h
    exact .inl ⟨by omega, fun hf => by have := hg.F b hf; omega⟩
  apart := fun i j b sh sh' hi hj _ _ => by simp at hi hj; omega
  kept := .inl fun b hb => heap_alloc_lt _ _ _ hb
theorem Good.alloc {K : Ctx} (hg : Good K) (n : Nat) (o : Obj) : Good (K.alloc n o) :=
  ⟨fun b h => Nat.lt_of_lt_of_le (hg.F b h) (by simp [Ctx.alloc]), Nat.le_trans hg.base (by simp [Ctx.alloc])⟩
theorem Step.box {K : Ctx} (hg : Good K) {n : Nat} {ob : Nat → Option Ob} (hn : K.σ n = none) {l : List T} {cs : Array Value} (t : TypeId) (h : RTs K l cs.toList) :
    Step K n ob (.pt n 0) [.box l] [] (K.alloc n (.cells cs t)) (.pointer (some ⟨K.w.heap.size, 0, none⟩)) := by
  refine .alloc hg hn _ ?_ ?_
  · simp only [RT]; exact ⟨_, 0, by simp [Ctx.alloc], rfl⟩
  · simp only [RO]
    exact ⟨_, cs, t, rfl, fun hf => by have := hg.F _ hf; omega, hg.base, heap_alloc_new _ _, RTs.mono (.alloc hg n _ hn) _ _ h⟩
/-- A row out of cells. -/
theorem RCs_mk {w : World} {F : Nat → Prop} {b : Nat} {cs : Array Value} {e : TypeId} {fr : Nat × Nat} (hb : w.heap[b]? = some (.cells cs e fr)) : ∀ (o : Nat) (l : List C),
    (∀ i x, l[i]? = some x → ∃ u, cs[o + i]? = some u ∧ RC w F x u) → RCs w F b o l
  | _, [], _ => by simp only [RCs]
  | o, x :: l, h => by
    simp only [RCs]
    obtain ⟨u, h1, h2⟩ := h 0 x rfl
    exact ⟨⟨u, by simp [World.cell?, hb]; simpa using h1, h2⟩, RCs_mk hb (o + 1) l fun i y hy => by simpa [Nat.add_assoc, Nat.add_comm 1] using h (i + 1) y (by simpa using hy)⟩
theorem RCs_get {w : World} {F : Nat → Prop} {b : Nat} : ∀ (o : Nat) (l : List C) (i : Nat) (x : C), RCs w F b o l → l[i]? = some x → ∃ u, w.cell? ⟨b, o + i, none⟩ = some u ∧ RC w F x u
  | _, [], i, x, h, hi => by simp at hi
  | o, y :: l, i, x, h, hi => by
    simp only [RCs] at h
    cases i with
    | zero => simp at hi; subst hi; exact h.1
    | succ i =>
      simp at hi
      obtain ⟨u, h1, h2⟩ := RCs_get (o + 1) l i x h.2 hi
      exact ⟨u, by rw [← h1, show o + (i + 1) = o + 1 + i by omega], h2⟩
theorem RCs_of_get {w : World} {F : Nat → Prop} {b : Nat} : ∀ (o : Nat) (l : List C), (∀ i x, l[i]? = some x → ∃ u, w.cell? ⟨b, o + i, none⟩ = some u ∧ RC w F x u) → RCs w F b o l
  | _, [], _ => by simp only [RCs]
  | o, x :: l, h => by
    simp only [RCs]
    exact ⟨by simpa using h 0 x rfl, RCs_of_get (o + 1) l fun i y hy => by simpa [Nat.add_assoc, Nat.add_comm 1] using h (i + 1) y (by simpa using hy)⟩
theorem RCs_row {w : World} {F : Nat → Prop} {b o : Nat} {l : List C} (h : RCs w F b o l) (off k : Nat) : RCs w F b (o + off) (rowAt l off k) := by
  refine RCs_of_get _ _ fun i x hx => ?_
  unfold rowAt at hx
  rw [List.getElem?_take] at hx
  split at hx
  · rw [List.getElem?_drop] at hx
    obtain ⟨u, h1, h2⟩ := RCs_get _ _ _ _ h hx
    exact ⟨u, by rw [← h1, Nat.add_assoc], h2⟩
  · simp at hx
end Go.Proofs.YtnbijiopcgfmfaaGreat.Tev
/- The simple operations. -/
namespace Go.Proofs.YtnbijiopcgfmfaaGreat.Tev
open Go Go.RowKit
set_option linter.unusedSectionVars false
set_option linter.unusedVariables false
set_option linter.unusedSimpArgs false

section
variable {P : Program} {K : Ctx} {n : Nat} {ob : Nat → Option Ob} {a : Act}

theorem Does.pure {o : Oper} {x : T} {val : Value} (hr : (execOp a.eval o).run P K.w = .ok (.value val) K.w) (hx : RT K x val) : Does P K n ob a o x [] [] :=
  .inl ⟨val, K, hr, .same hx⟩

theorem v0_inv {r : Option T} {x : T} {nw : List Ob} {fz : List Nat} (h : v0 r = some (x, nw, fz)) : r = some x ∧ nw = [] ∧ fz = [] := by
  cases r with
  | none => simp [v0] at h
  | some y => simp [v0] at h; exact ⟨by rw [h.1], h.2.1, h.2.2⟩
theorem v1_inv {r : Option (T × List Ob)} {x : T} {nw : List Ob} {fz : List Nat} (h : v1 r = some (x, nw, fz)) : r = some (x, nw) ∧ fz = [] := by
  cases r with
  | none => simp [v1] at h
  | some y => obtain ⟨y1, y2⟩ := y; simp [v1] at h; exact ⟨by rw [h.1, h.2.1], h.2.2⟩

theorem run_value (e : Sem Value) (w : World) : (do let v ← e; Pure.pure (Next.value v) : Sem Next).run P w = (e.run P w).andThen fun v w' => .ok (.value v) w' := by
  show (Sem.bind e _).run P w = _
  rw [Sem.run_bind']; rfl

theorem run_binOp (op : BinOp) (xt : TypeId) (x y : Operand) (yt : TypeId) (d : Option Nat) (ty : TypeId) (pos : String) (af : Array Edge) (g : Option (Nat × Bool)) (w : World) {u v r : Value}
    (hu : a.eval x = u) (hv : a.eval y = v) (h : peel P (do eqGuard op xt x y u v; binOp op xt u v) = some r) : (execOp a.eval ⟨d, .binOp op xt x y yt, ty, pos, af, g⟩).run P w = .ok (.value r) w := by
  simp only [execOp]
  rw [run_value, hu, hv, peel_run _ _ h]
  rfl

section
variable {P : Program}
theorem row2_facts {t : TypeId} (h : isRow2 P t = true) : ∃ e i, P.underlying t = some (.array 2 e) ∧ P.underlying e = some (.int .i64) ∧ P.plainKey e = true ∧ P.info? e = some i ∧ P.eqGuardType P.depth t = false ∧ P.cellsOf e = 1 := by
  unfold isRow2 at h
  split at h
  · rename_i e he
    simp only [Bool.and_eq_true, Bool.not_eq_true', beq_iff_eq] at h
    obtain ⟨⟨⟨⟨h1, h2⟩, h3⟩, h4⟩, h5⟩ := h
    obtain ⟨i, hi⟩ := Option.isSome_iff_exists.1 h3
    refine ⟨e, i, he, ?_, h2, hi, h4, h5⟩
    split at h1
    · assumption
    · simp at h1
  · simp at h
theorem run_int_eq {e : TypeId} (he : P.underlying e = some (.int .i64)) (d : Nat) (a b : Int) (w : World) : (Op.equalIn (d + 1) e (.int .i64 a) (.int .i64 b)).run P w = .ok (decide (a = b)) w := by
  simp only [Op.equalIn, Sem.run_bind, run_underlying he, Result.andThen_ok, if_true]
  rfl
theorem run_row2 {t : TypeId} (h : isRow2 P t = true) (a b c d : Int) (w : World) : (Op.equal t (.agg #[.int .i64 a, .int .i64 b]) (.agg #[.int .i64 c, .int .i64 d])).run P w = .ok (decide (a = c ∧ b = d)) w := by
  obtain ⟨e, i, h1, h2, h3, h4, h5, h6⟩ := row2_facts h
  unfold Op.equal
  rw [show Op.maxDepth = 9998 + 1 + 1 from rfl, run_equalIn_array w _ _ _ h1 h4, h6]
  rw [show List.range 2 = [0, 1] from rfl]
  simp only [Op.eqItems, Sem.run_bind, Nat.zero_mul, Nat.one_mul]
  rw [run_part_plain w h3 (v := .int .i64 a) rfl]
  simp only [Result.andThen_ok]
  rw [run_part_plain w h3 (v := .int .i64 c) rfl]
  simp only [Result.andThen_ok, run_int_eq h2]
  by_cases h7 : a = c
  · subst h7
    simp only [decide_true, Bool.not_true, Bool.false_eq_true, if_false, true_and]
    rw [Sem.run_bind, run_part_plain w h3 (xs := #[.int .i64 a, .int .i64 b]) (off := 1) (v := .int .i64 b) rfl]
    simp only [Result.andThen_ok]
    rw [Sem.run_bind, run_part_plain w h3 (xs := #[.int .i64 a, .int .i64 d]) (off := 1) (v := .int .i64 d) rfl]
    simp only [Result.andThen_ok, Sem.run_bind, run_int_eq h2]
    by_cases h8 : b = d
    · simp [h8]
    · simp [h8]
  · simp [h7]
theorem guard_row2 {t : TypeId} (h : isRow2 P t = true) (op : BinOp) (x y : Operand) (xs ys : Array Value) : peel P (eqGuard op t x y (.agg xs) (.agg ys)) = some () := by
  obtain ⟨e, i, h1, h2, h3, h4, h5, h6⟩ := row2_facts h
  unfold eqGuard
  cases op <;> simp [peel, program, bind, Sem.bind, pure, h5]
theorem run_binRow {P : Program} {a : Act} {xt : TypeId} (h : isRow2 P xt = true) (op : BinOp) (x y : Operand) (yt : TypeId) (d : Option Nat) (ty : TypeId) (pos : String) (af : Array Edge) (g : Option (Nat × Bool)) (w : World) {k l m n : Int}
    (hu : a.eval x = .agg #[.int .i64 k, .int .i64 l]) (hv : a.eval y = .agg #[.int .i64 m, .int .i64 n]) {r : Bool} (hr : (op = .eql ∧ r = decide (k = m ∧ l = n)) ∨ (op = .neq ∧ r = !decide (k = m ∧ l = n))) :
    (execOp a.eval ⟨d, .binOp op xt x y yt, ty, pos, af, g⟩).run P w = .ok (.value (.bool r)) w := by
  simp only [execOp]
  rw [run_value, hu, hv]
  have e1 : (do eqGuard op xt x y (.agg #[.int .i64 k, .int .i64 l]) (.agg #[.int .i64 m, .int .i64 n]); binOp op xt (.agg #[.int .i64 k, .int .i64 l]) (.agg #[.int .i64 m, .int .i64 n]) : Sem Value).run P w = .ok (.bool r) w := by
    rw [Sem.run_bind, peel_run _ _ (guard_row2 h op x y _ _)]
    rcases hr with ⟨rfl, rfl⟩ | ⟨rfl, rfl⟩
    · show (do pure (.bool (← Op.equal xt _ _)) : Sem Value).run P w = _
      rw [Sem.run_bind, run_row2 h]; rfl
    · show (do pure (.bool (!(← Op.equal xt _ _))) : Sem Value).run P w = _
      rw [Sem.run_bind, run_row2 h]; rfl
  rw [e1]; rfl
end
theorem bin2_sound (op : BinOp) (xt : TypeId) (x y : Operand) (yt : TypeId) (d : Option Nat) (ty : TypeId) (pos : String) (af : Array Edge) (g : Option (Nat × Bool)) {S : St} {z : T}
    (hx : RT K (S.ev x) (a.eval x)) (hy : RT K (S.ev y) (a.eval y)) (h : bin2 P op xt x y (S.ev x) (S.ev y) = some z) : Does P K n ob a ⟨d, .binOp op xt x y yt, ty, pos, af, g⟩ z [] [] := by
  unfold bin2 at h
  split at h
  · rename_i u v e1 e2
    rw [e1] at hx; rw [e2] at hy
    obtain ⟨r, h1, h2⟩ := Option.bind_eq_some_iff.1 h
    exact .pure (run_binOp op xt x y yt d ty pos af g _ (RT_v hx) (RT_v hy) h1) (RT_ofV h2)
  · rename_i k l m n e1 e2
    rw [e1] at hx; rw [e2] at hy
    simp only [RT, RTs, RC] at hx hy
    obtain ⟨_, hu, u1, _, rfl, r1, u2, _, rfl, r2, rfl⟩ := hx
    obtain ⟨_, hv, u3, _, rfl, r3, u4, _, rfl, r4, rfl⟩ := hy
    obtain rfl := r1.1
    obtain rfl := r2.1
    obtain rfl := r3.1
    obtain rfl := r4.1
    unfold cmp2 at h
    split at h
    · rename_i hrow
      split at h
      · obtain rfl := Option.some.inj h
        exact .pure (run_binRow hrow _ x y yt d ty pos af g _ hu hv (.inl ⟨rfl, rfl⟩)) (RT_ofV rfl)
      · obtain rfl := Option.some.inj h
        exact .pure (run_binRow hrow _ x y yt d ty pos af g _ hu hv (.inr ⟨rfl, rfl⟩)) (RT_ofV rfl)
      · simp at h
    · simp at h
  · simp at h

theorem un1_sound (op : UnOp) (xt : TypeId) (x : Operand) (d : Option Nat) (ty : TypeId) (pos : String) (af : Array Edge) (g : Option (Nat × Bool)) {S : St} {z : T}
    (hx : RT K (S.ev x) (a.eval x)) (h : un1 P op (S.ev x) = some z) : Does P K n ob a ⟨d, .unOp op xt x, ty, pos, af, g⟩ z [] [] := by
  unfold un1 at h
  split at h
  · rename_i u e1
    rw [e1] at hx
    obtain ⟨r, h1, h2⟩ := Option.bind_eq_some_iff.1 h
    refine .pure (val := r) ?_ (RT_ofV h2)
    simp only [execOp]
    rw [run_value, RT_v hx, peel_run _ _ h1]; rfl
  · simp at h
theorem conv1_sound (s t : TypeId) (x : Operand) (d : Option Nat) (ty : TypeId) (pos : String) (af : Array Edge) (g : Option (Nat × Bool)) {S : St} {z : T}
    (hx : RT K (S.ev x) (a.eval x)) (h : conv1 P s t (S.ev x) = some z) : Does P K n ob a ⟨d, .convert s t x, ty, pos, af, g⟩ z [] [] := by
  unfold conv1 at h
  split at h
  · rename_i u e1
    rw [e1] at hx
    obtain ⟨r, h1, h2⟩ := Option.bind_eq_some_iff.1 h
    refine .pure (val := r) ?_ (RT_ofV h2)
    simp only [execOp]
    rw [run_value, RT_v hx, peel_run _ _ h1]; rfl
  · simp at h
theorem pick_sound (c x y : Operand) (d : Option Nat) (ty : TypeId) (pos : String) (af : Array Edge) (g : Option (Nat × Bool)) {S : St} {z : T}
    (hc : RT K (S.ev c) (a.eval c)) (hx : RT K (S.ev x) (a.eval x)) (hy : RT K (S.ev y) (a.eval y)) (h : pickT (S.ev c) (S.ev x) (S.ev y) = some z) : Does P K n ob a ⟨d, .pick c x y, ty, pos, af, g⟩ z [] [] := by
  unfold pickT at h
  split at h
  · rename_i q e1
    rw [e1] at hc
    have hc' := RT_v hc
    cases q with
    | true =>
      simp at h; subst h
      refine .pure (val := a.eval x) ?_ hx
      simp [execOp, hc', asBool, bind, Sem.bind, Pure.pure, Sem.run]
    | false =>
      simp at h; subst h
      refine .pure (val := a.eval y) ?_ hy
      simp [execOp, hc', asBool, bind, Sem.bind, Pure.pure, Sem.run]
  · simp at h
theorem nil_sound (x : Operand) (d : Option Nat) (ty : TypeId) (pos : String) (af : Array Edge) (g : Option (Nat × Bool)) {S : St} {z : T}
    (hx : RT K (S.ev x) (a.eval x)) (h : nilT (S.ev x) = some z) : Does P K n ob a ⟨d, .nilCheck x, ty, pos, af, g⟩ z [] [] := by
  have key : ∀ p, a.eval x = .pointer (some p) → Does P K n ob a ⟨d, .nilCheck x, ty, pos, af, g⟩ z [] [] := fun p e => by
    refine .pure (val := a.eval x) ?_ ?_
    · simp [execOp, e, Pure.pure, Sem.run]
    · unfold nilT at h
      split at h <;> first | (obtain rfl := Option.some.inj h; rename_i e1; rw [e1] at hx; exact hx) | (simp at h)
  unfold nilT at h
  split at h
  · rename_i e1; rw [e1] at hx; simp only [RT] at hx; obtain ⟨b, sh, _, e⟩ := hx; exact key _ e
  · rename_i e1; rw [e1] at hx; simp only [RT] at hx; obtain ⟨b, sh, e, _⟩ := hx; exact key _ e
  · rename_i e1; rw [e1] at hx; simp only [RT] at hx; obtain ⟨b, e, _⟩ := hx; exact key _ e
  · simp at h
theorem extract_sound (x : Operand) (i : Nat) (d : Option Nat) (ty : TypeId) (pos : String) (af : Array Edge) (g : Option (Nat × Bool)) {S : St} {z : T}
    (hx : RT K (S.ev x) (a.eval x)) (h : extractT (S.ev x) i = some z) : Does P K n ob a ⟨d, .extract x i, ty, pos, af, g⟩ z [] [] := by
  unfold extractT at h
  split at h
  · rename_i l e1
    rw [e1] at hx; simp only [RT] at hx
    obtain ⟨cs, e, hl⟩ := hx
    obtain ⟨u, hu, r⟩ := RTs_get _ _ _ _ hl h
    refine .pure (val := u) ?_ r
    simp [execOp, e, Instr.extract, hu, bind, Sem.bind, Pure.pure, Sem.run]
  · simp at h
theorem makeFunc_sound (fn : Fn) (first caps : Array Operand) (d : Option Nat) (ty : TypeId) (pos : String) (af : Array Edge) (g : Option (Nat × Bool)) {S : St} {z : T}
    (hx : ∀ y ∈ caps, RT K (S.ev y) (a.eval y)) (h : makeFuncT fn first (caps.toList.map S.ev) = some z) : Does P K n ob a ⟨d, .makeFunc fn first caps, ty, pos, af, g⟩ z [] [] := by
  unfold makeFuncT at h
  split at h
  · split at h
    · rename_i f hf
      obtain rfl := Option.some.inj h
      have hf' : first = #[] := Array.eq_empty_of_size_eq_zero hf
      subst hf'
      refine .pure (val := .func (.func f) #[] (caps.map a.eval)) ?_ ?_
      · simp [execOp, Instr.makeFunc, bind, Sem.bind, Pure.pure, Sem.run]
      · simp only [RT]
        refine ⟨caps.toList.map a.eval, by rw [← Array.toList_map, Array.toArray_toList], ?_⟩
        have : ∀ l : List Operand, (∀ y ∈ l, RT K (S.ev y) (a.eval y)) → RTs K (l.map S.ev) (l.map a.eval) := by
          intro l
          induction l with
          | nil => intro _; simp only [List.map_nil, RTs]
          | cons y l ih =>
            intro hl
            simp only [List.map_cons, RTs]
            exact ⟨_, _, rfl, hl y (by simp), ih fun z hz => hl z (by simp [hz])⟩
        exact this _ fun y hy => hx y (by simpa using hy)
    · simp at h
  · simp at h

/-! Types. -/
theorem szOf_run {t : TypeId} {sz : Nat} (h : szOf P t = some sz) (w : World) : (sizeOf t).run P w = .ok sz w := by
  unfold szOf at h
  obtain ⟨i, h1, h2⟩ := Option.map_eq_some_iff.1 h
  simp [sizeOf, typeInfo, program, h1, h2, bind, Sem.bind, Pure.pure, Sem.run]
theorem bytes_run {t : TypeId} {sz : Nat} (h : bytesOf P t = some sz) : ∃ i, P.info? t = some i ∧ i.bytes = sz := by
  unfold bytesOf at h
  exact Option.map_eq_some_iff.1 h
theorem info_run {t : TypeId} {i : TypeInfo} (h : P.info? t = some i) (w : World) : (typeInfo t).run P w = .ok i w := by
  simp [typeInfo, program, h, bind, Sem.bind, Pure.pure, Sem.run]
theorem under_run {t : TypeId} {d : TypeDesc} (h : P.underlying t = some d) (w : World) : (underlying t).run P w = .ok d w := by
  simp [underlying, program, h, bind, Sem.bind, Pure.pure, Sem.run]
theorem agg_run {t : TypeId} {ag : Bool} (h : aggOf P t = some ag) (w : World) : (isAgg t).run P w = .ok ag w := by
  unfold aggOf at h
  cases hu : P.underlying t with
  | none => simp [hu] at h
  | some d =>
    simp only [hu] at h
    show (Sem.bind (underlying t) _).run P w = _
    rw [Sem.run_bind', under_run hu]
    cases d <;> simp_all [Result.andThen, Pure.pure, Sem.run]
theorem zero_run {t : TypeId} {z : List T} (h : zeroOf P t = some z) : ∃ v, (∀ w, (zeroValue t).run P w = .ok v w) ∧ (∀ K, RTs K z v.cells.toList) ∧ z = v.cells.toList.map cellT := by
  unfold zeroOf at h
  obtain ⟨i, h1, h2⟩ := Option.bind_eq_some_iff.1 h
  obtain ⟨v, h3, h4⟩ := Option.map_eq_some_iff.1 h2
  refine ⟨v, fun w => ?_, fun K => by rw [← h4]; exact RTs_cellT K _, h4.symm⟩
  show (Sem.bind (typeInfo t) _).run P w = _
  rw [Sem.run_bind', info_run h1]
  simp [Result.andThen, h3, Pure.pure, Sem.run]
theorem run_newVar (t : TypeId) (v : Value) (w : World) : (newVar t v).run P w = .ok ⟨w.heap.size, 0, none⟩ (w.alloc (.cells v.cells t)) := by
  simp [newVar, newRow, newObj, bind, Sem.bind, Pure.pure, Sem.run, World.alloc_eq]

theorem alloc_sound (hg : Good K) (hn : K.σ n = none) (t : TypeId) (d : Option Nat) (ty : TypeId) (pos : String) (af : Array Edge) (g : Option (Nat × Bool)) {x : T} {nw : List Ob}
    (h : allocT n (zeroOf P t) = some (x, nw)) : Does P K n ob a ⟨d, .alloc t, ty, pos, af, g⟩ x nw [] := by
  unfold allocT at h
  obtain ⟨z, h1, h2⟩ := Option.map_eq_some_iff.1 h
  obtain ⟨v, h3, h4, _⟩ := zero_run h1
  obtain ⟨rfl, rfl⟩ := Prod.mk.inj h2
  refine .inl ⟨_, _, ?_, Step.box hg hn (cs := v.cells) t (h4 K)⟩
  simp only [execOp]
  rw [run_value]
  show ((Sem.bind (zeroValue t) _).run P K.w).andThen _ = _
  rw [Sem.run_bind', h3]
  show ((Sem.bind (newVar t v) _).run P K.w).andThen _ = _
  rw [Sem.run_bind', run_newVar]
  rfl
theorem box_sound (hg : Good K) (hn : K.σ n = none) (t : TypeId) (y : Operand) (d : Option Nat) (ty : TypeId) (pos : String) (af : Array Edge) (g : Option (Nat × Bool)) {S : St} {x : T} {nw : List Ob}
    (hy : RT K (S.ev y) (a.eval y)) (h : allocT n (cellsOf (S.ev y)) = some (x, nw)) : Does P K n ob a ⟨d, .box t y, ty, pos, af, g⟩ x nw [] := by
  unfold allocT at h
  obtain ⟨z, h1, h2⟩ := Option.map_eq_some_iff.1 h
  obtain ⟨rfl, rfl⟩ := Prod.mk.inj h2
  refine .inl ⟨_, _, ?_, Step.box hg hn (cs := (a.eval y).cells) t (cellsOf_sound h1 hy)⟩
  simp only [execOp]
  rw [run_value]
  show ((Sem.bind (newVar t _) _).run P K.w).andThen _ = _
  rw [Sem.run_bind', run_newVar]
  rfl

/-! Parts. -/
theorem partT_sound {t : TypeId} {l : List T} {us : List Value} {off : Nat} {x : T} (hl : RTs K l us) (h : partT P t l off = some x) :
    ∃ u, RT K x u ∧ ∀ w, (part t us.toArray off).run P w = .ok u w := by
  unfold partT at h
  obtain ⟨ag, h1, h⟩ := Option.bind_eq_some_iff.1 h
  obtain ⟨sz, h2, h⟩ := Option.bind_eq_some_iff.1 h
  have hlen := RTs_length _ _ hl
  cases ag with
  | true =>
    simp only [if_true] at h
    split at h
    · rename_i hle
      obtain rfl := Option.some.inj h
      refine ⟨.agg ((us.drop off).take sz).toArray, ?_, fun w => ?_⟩
      · simp only [RT]; exact ⟨_, rfl, RTs_take (RTs_drop hl _) _⟩
      · show (Sem.bind (isAgg t) _).run P w = _
        rw [Sem.run_bind', agg_run h1]
        show (Sem.bind (sizeOf t) _).run P w = _
        rw [Sem.run_bind', szOf_run h2]
        simp only [Result.andThen, Pure.pure, Sem.run, Result.ok.injEq, Value.agg.injEq, and_true]
        rw [List.extract_toArray]
        congr 1
        rw [List.take_drop]
        simp [List.extract_eq_take_drop, List.take_drop]
    · simp at h
  | false =>
    simp only [Bool.false_eq_true, if_false] at h
    obtain ⟨u, hu, r⟩ := RTs_get _ _ _ _ hl h
    refine ⟨u, r, fun w => ?_⟩
    show (Sem.bind (isAgg t) _).run P w = _
    rw [Sem.run_bind', agg_run h1]
    simp [Result.andThen, hu, Pure.pure, Sem.run]
theorem fieldOf_run {t : TypeId} {i : Nat} {p : Nat × TypeId} (h : fieldOf P t i = some p) : ∃ (fs : Array Field) (f : Field), P.underlying t = some (.struct fs) ∧ fs[i]? = some f ∧ f.offset = p.1 ∧ f.type = p.2 := by
  unfold fieldOf at h
  split at h
  · rename_i fs hu
    obtain ⟨f, h1, h2⟩ := Option.map_eq_some_iff.1 h
    exact ⟨fs, f, hu, h1, by rw [← h2], by rw [← h2]⟩
  · simp at h
theorem field_sound (t : TypeId) (y : Operand) (i : Nat) (d : Option Nat) (ty : TypeId) (pos : String) (af : Array Edge) (g : Option (Nat × Bool)) {S : St} {x : T}
    (hy : RT K (S.ev y) (a.eval y)) (h : fieldT P t i (S.ev y) = some x) : Does P K n ob a ⟨d, .field t y i, ty, pos, af, g⟩ x [] [] := by
  unfold fieldT at h
  obtain ⟨p, h1, h⟩ := Option.bind_eq_some_iff.1 h
  obtain ⟨fs, f, hu, hf, e1, e2⟩ := fieldOf_run h1
  split at h
  · rename_i l e
    rw [e] at hy; simp only [RT] at hy
    obtain ⟨cs, e3, hl⟩ := hy
    obtain ⟨u, r, hr⟩ := partT_sound hl h
    refine .pure (val := u) ?_ r
    simp only [execOp]
    rw [run_value]
    show ((Sem.bind (underlying t) _).run P K.w).andThen _ = _
    rw [Sem.run_bind', under_run hu]
    simp only [Result.andThen, hf, e3, asAgg, e1, e2]
    show ((Sem.bind (Pure.pure _) _).run P K.w).andThen _ = _
    simp only [Pure.pure, Sem.bind, hr, Result.andThen, Sem.run]
  · simp at h
theorem Addr.add0 (b o k : Nat) : (⟨b, o, none⟩ : Addr).add k = ⟨b, o + k, none⟩ := by unfold Addr.add; split <;> simp_all
theorem run_fieldAt {t : TypeId} {i : Nat} {p : Nat × TypeId} {sz : Nat} (h : fieldOf P t i = some p) (hs : szOf P p.2 = some (sz + 1)) (b o : Nat) (w : World) :
    (Instr.fieldAt t (.pointer (some ⟨b, o, none⟩)) i).run P w = .ok (.pointer (some ⟨b, o + p.1, none⟩)) w := by
  obtain ⟨fs, f, hu, hf, e1, e2⟩ := fieldOf_run h
  show (Sem.bind (underlying t) _).run P w = _
  rw [Sem.run_bind', under_run hu]
  simp only [Result.andThen, hf, Instr.sureAddr]
  show (Sem.bind (Pure.pure _) _).run P w = _
  simp only [Pure.pure, Sem.bind]
  show (Sem.bind (fieldPlace _ f) _).run P w = _
  rw [Sem.run_bind']
  have : (fieldPlace ⟨b, o, none⟩ f).run P w = .ok ⟨b, o + p.1, none⟩ w := by
    show (Sem.bind (sizeOf f.type) _).run P w = _
    rw [Sem.run_bind', e2, szOf_run hs]
    simp [Result.andThen, Pure.pure, Sem.run, Addr.add0, e1]
  rw [this]
  rfl
theorem fieldAddr_sound (t : TypeId) (y : Operand) (i : Nat) (d : Option Nat) (ty : TypeId) (pos : String) (af : Array Edge) (g : Option (Nat × Bool)) {S : St} {x : T}
    (hy : RT K (S.ev y) (a.eval y)) (h : fieldAddrT P t i (S.ev y) = some x) : Does P K n ob a ⟨d, .fieldAddr t y i, ty, pos, af, g⟩ x [] [] := by
  unfold fieldAddrT at h
  obtain ⟨p, h1, h⟩ := Option.bind_eq_some_iff.1 h
  obtain ⟨sz, h2, h⟩ := Option.bind_eq_some_iff.1 h
  have key : ∀ b o k, sz = k + 1 → a.eval y = .pointer (some ⟨b, o, none⟩) → RT K x (.pointer (some ⟨b, o + p.1, none⟩)) → Does P K n ob a ⟨d, .fieldAddr t y i, ty, pos, af, g⟩ x [] [] := by
    intro b o k e1 e2 r
    subst e1
    refine .pure ?_ r
    simp only [execOp]
    rw [run_value, e2, run_fieldAt h1 h2]
    rfl
  split at h
  · simp at h
  · rename_i k o off e
    obtain rfl := Option.some.inj h
    rw [e] at hy; simp only [RT] at hy
    obtain ⟨b, sh, hs, e1⟩ := hy
    exact key _ _ k rfl e1 (by simp only [RT]; exact ⟨b, sh, hs, by rw [Nat.add_assoc]⟩)
  · rename_i k q l off e
    obtain rfl := Option.some.inj h
    rw [e] at hy; simp only [RT] at hy
    obtain ⟨b, s, e1, hb, hl⟩ := hy
    exact key _ _ k rfl e1 (by simp only [RT]; exact ⟨b, s, by rw [Nat.add_assoc], hb, hl⟩)
  · rename_i k l off e
    obtain rfl := Option.some.inj h
    rw [e] at hy; simp only [RT] at hy
    obtain ⟨b, e1, hb, hl⟩ := hy
    exact key _ _ k rfl e1 (by simp only [RT]; exact ⟨b, rfl, hb, hl⟩)
  · simp at h
theorem asI_sound {x : T} {k : Int} {u : Value} (h : asI x = some k) (r : RT K x u) : ∃ kk, u = .int kk k := by
  unfold asI at h
  split at h
  · obtain rfl := Option.some.inj h; exact ⟨_, RT_v r⟩
  · simp at h
theorem elemOf_run {t e : TypeId} (h : elemOf P t = some e) : P.underlying t = some (.slice e) := by
  unfold elemOf at h
  split at h
  · rename_i hu; obtain rfl := Option.some.inj h; exact hu
  · simp at h
theorem arrOf_run {t : TypeId} {p : Nat × TypeId} (h : arrOf P t = some p) : P.underlying t = some (.array p.1 p.2) := by
  unfold arrOf at h
  split at h
  · rename_i hu; obtain rfl := Option.some.inj h; exact hu
  · simp at h
theorem run_indexAt_slice {t e : TypeId} {sz : Nat} (he : elemOf P t = some e) (hs : szOf P e = some sz) (b o len c : Nat) (kk : IntKind) (k : Int) (h0 : 0 ≤ k) (h1 : k < len) (w : World) :
    (Instr.indexAt t (.slice (some ⟨b, o, none⟩) len c) (.int kk k)).run P w = .ok (.pointer (some ⟨b, o + k.toNat * sz, none⟩)) w := by
  simp only [Instr.indexAt, asIntOf, bind, Pure.pure, Sem.bind, Sem.run_bind', under_run (elemOf_run he), Result.andThen, Sem.run, if_pos (And.intro h0 h1), szOf_run hs, Addr.add0]
theorem run_indexAt_arr {t : TypeId} {p : Nat × TypeId} {sz : Nat} (he : arrOf P t = some p) (hs : szOf P p.2 = some sz) (b o : Nat) (kk : IntKind) (k : Int) (h0 : 0 ≤ k) (h1 : k < p.1) (w : World) :
    (Instr.indexAt t (.pointer (some ⟨b, o, none⟩)) (.int kk k)).run P w = .ok (.pointer (some ⟨b, o + k.toNat * sz, none⟩)) w := by
  simp only [Instr.indexAt, asIntOf, bind, Pure.pure, Sem.bind, Sem.run_bind', under_run (arrOf_run he), Instr.sureAddr, Result.andThen, Sem.run, if_pos (And.intro h0 h1), szOf_run hs, Addr.add0]
theorem indexAddr_sound (t : TypeId) (y z : Operand) (d : Option Nat) (ty : TypeId) (pos : String) (af : Array Edge) (g : Option (Nat × Bool)) {S : St} {x : T}
    (hy : RT K (S.ev y) (a.eval y)) (hz : RT K (S.ev z) (a.eval z)) (h : indexAddrT P t (S.ev y) (S.ev z) = some x) : Does P K n ob a ⟨d, .indexAddr t y z, ty, pos, af, g⟩ x [] [] := by
  unfold indexAddrT at h
  obtain ⟨k, hk, h⟩ := Option.bind_eq_some_iff.1 h
  obtain ⟨kk, ek⟩ := asI_sound hk hz
  have key : ∀ v, (Instr.indexAt t (a.eval y) (a.eval z)).run P K.w = .ok v K.w → RT K x v → Does P K n ob a ⟨d, .indexAddr t y z, ty, pos, af, g⟩ x [] [] := by
    intro v e r
    refine .pure ?_ r
    simp only [execOp]
    rw [run_value, e]; rfl
  split at h
  · rename_i cap n l e
    obtain ⟨e1, h1, h⟩ := Option.bind_eq_some_iff.1 h
    obtain ⟨sz, h2, h⟩ := Option.bind_eq_some_iff.1 h
    split at h
    · rename_i hb
      obtain rfl := Option.some.inj h
      rw [e] at hy; simp only [RT, RC] at hy
      obtain ⟨A, c, e2, _, _, h4⟩ := hy
      rcases h4 with ⟨rfl, _⟩ | ⟨b, o, rfl, hF, hl⟩
      · exact absurd hb.2 (by omega)
      · exact key _ (by rw [e2, ek]; exact run_indexAt_slice h1 h2 b o n c kk k hb.1 hb.2 _) (by simp only [RT]; exact ⟨b, o, rfl, by simpa using hF, hl⟩)
    · simp at h
  · rename_i cap n l e
    obtain ⟨e1, h1, h⟩ := Option.bind_eq_some_iff.1 h
    obtain ⟨sz, h2, h⟩ := Option.bind_eq_some_iff.1 h
    split at h
    · rename_i hb
      obtain rfl := Option.some.inj h
      rw [e] at hy; simp only [RT] at hy
      obtain ⟨A, c, e2, _, _, h4⟩ := hy
      rcases h4 with ⟨rfl, _⟩ | ⟨b, o, rfl, hF, hl⟩
      · exact absurd hb.2 (by omega)
      · exact key _ (by rw [e2, ek]; exact run_indexAt_slice h1 h2 b o n c kk k hb.1 hb.2 _) (by simp only [RT]; exact ⟨b, o, rfl, by simpa using hF, hl⟩)
    · simp at h
  · rename_i o off n sz' cap e
    obtain ⟨e1, h1, h⟩ := Option.bind_eq_some_iff.1 h
    obtain ⟨sz, h2, h⟩ := Option.bind_eq_some_iff.1 h
    split at h
    · rename_i hb
      obtain rfl := Option.some.inj h
      rw [e] at hy; simp only [RT] at hy
      obtain ⟨A, c, e2, hnc, _, h4⟩ := hy
      rcases h4 with ⟨rfl, _⟩ | ⟨b, sh, hs, rfl, _⟩
      · exact absurd hb.2 (by omega)
      · exact key _ (by rw [e2, ek]; exact run_indexAt_slice h1 h2 b _ n c kk k hb.1 hb.2 _) (by simp only [RT]; exact ⟨b, sh, hs, by rw [Nat.add_assoc]⟩)
    · simp at h
  · rename_i o off e
    obtain ⟨e1, h1, h⟩ := Option.bind_eq_some_iff.1 h
    obtain ⟨sz, h2, h⟩ := Option.bind_eq_some_iff.1 h
    split at h
    · rename_i hb
      obtain rfl := Option.some.inj h
      rw [e] at hy; simp only [RT] at hy
      obtain ⟨b, sh, hs, e2⟩ := hy
      exact key _ (by rw [e2, ek]; exact run_indexAt_arr h1 h2 b _ kk k hb.1 hb.2 _) (by simp only [RT]; exact ⟨b, sh, hs, by rw [Nat.add_assoc]⟩)
    · simp at h
  · rename_i q l off e
    obtain ⟨e1, h1, h⟩ := Option.bind_eq_some_iff.1 h
    obtain ⟨sz, h2, h⟩ := Option.bind_eq_some_iff.1 h
    split at h
    · rename_i hb
      obtain rfl := Option.some.inj h
      rw [e] at hy; simp only [RT] at hy
      obtain ⟨b, s, e2, hF, hl⟩ := hy
      exact key _ (by rw [e2, ek]; exact run_indexAt_arr h1 h2 b _ kk k hb.1 hb.2 _) (by simp only [RT]; exact ⟨b, s, by rw [Nat.add_assoc], hF, hl⟩)
    · simp at h
  · rename_i l off e
    obtain ⟨e1, h1, h⟩ := Option.bind_eq_some_iff.1 h
    obtain ⟨sz, h2, h⟩ := Option.bind_eq_some_iff.1 h
    split at h
    · rename_i hb
      obtain rfl := Option.some.inj h
      rw [e] at hy; simp only [RT] at hy
      obtain ⟨b, e2, hF, hl⟩ := hy
      exact key _ (by rw [e2, ek]; exact run_indexAt_arr h1 h2 b _ kk k hb.1 hb.2 _) (by simp only [RT]; exact ⟨b, rfl, hF, hl⟩)
    · simp at h
  · simp at h
theorem index_sound (t : TypeId) (y z : Operand) (d : Option Nat) (ty : TypeId) (pos : String) (af : Array Edge) (g : Option (Nat × Bool)) {S : St} {x : T}
    (hy : RT K (S.ev y) (a.eval y)) (hz : RT K (S.ev z) (a.eval z)) (h : indexT P t (S.ev y) (S.ev z) = some x) : Does P K n ob a ⟨d, .index t y z, ty, pos, af, g⟩ x [] [] := by
  unfold indexT at h
  split at h
  · rename_i l e
    obtain ⟨k, hk, h⟩ := Option.bind_eq_some_iff.1 h
    obtain ⟨kk, ek⟩ := asI_sound hk hz
    obtain ⟨p, h1, h⟩ := Option.bind_eq_some_iff.1 h
    obtain ⟨sz, h2, h⟩ := Option.bind_eq_some_iff.1 h
    split at h
    · rename_i hb
      rw [e] at hy; simp only [RT] at hy
      obtain ⟨cs, e2, hl⟩ := hy
      obtain ⟨u, r, hr⟩ := partT_sound hl h
      refine .pure (val := u) ?_ r
      simp only [execOp]
      rw [run_value, e2, ek]
      simp only [Instr.index, asIntOf, bind, Pure.pure, Sem.bind, Sem.run_bind', under_run (arrOf_run h1), Result.andThen, Sem.run, if_pos hb, szOf_run h2, hr]
    · simp at h
  · rename_i s e
    obtain ⟨k, hk, h⟩ := Option.bind_eq_some_iff.1 h
    obtain ⟨kk, ek⟩ := asI_sound hk hz
    split at h
    · rename_i hu
      obtain ⟨b, hb, rfl⟩ := Option.map_eq_some_iff.1 h
      rw [e] at hy
      have e2 := RT_v hy
      refine .pure (val := .int .u8 b.toNat) ?_ (by simp only [RT, RC]; try trivial)
      simp only [execOp]
      rw [run_value, e2, ek]
      simp only [Instr.index, asIntOf, bind, Pure.pure, Sem.bind, Sem.run_bind', under_run hu, Result.andThen, Sem.run, hb]
    · simp at h
  · simp at h

/-! Reading. -/
theorem run_load (w : World) (b o : Nat) (u : Value) (h : w.cell? ⟨b, o, none⟩ = some u) : (load ⟨b, o, none⟩).run P w = .ok u w := by
  simp [load, Sem.run, h]
theorem run_loadVar_agg {t : TypeId} {sz : Nat} (ha : aggOf P t = some true) (hs : szOf P t = some sz) (w : World) (b o : Nat) (us : List Value) (hl : us.length = sz) (h : ∀ j u, us[j]? = some u → w.cell? ⟨b, o + j, none⟩ = some u) :
    (loadVar t ⟨b, o, none⟩).run P w = .ok (.agg us.toArray) w := by
  have hr : (loadCells ⟨b, o, none⟩ us.length).run P w = .ok us.toArray w := run_loadCells_list (P := P) w ⟨b, o, none⟩ us (fun j v hv => by rw [Addr.add0]; exact h j v hv)
  simp only [loadVar, bind, Sem.run_bind', agg_run ha, Result.andThen, if_true, szOf_run hs, ← hl, hr, Pure.pure, Sem.run]
theorem run_loadVar_one {t : TypeId} (ha : aggOf P t = some false) (w : World) (b o : Nat) (u : Value) (h : w.cell? ⟨b, o, none⟩ = some u) :
    (loadVar t ⟨b, o, none⟩).run P w = .ok u w := by
  simp only [loadVar, bind, Sem.run_bind', agg_run ha, Result.andThen, Bool.false_eq_true, if_false, run_load w b o u h]
theorem mapO_get {α β : Type} {f : α → Option β} : ∀ {l : List α} {r : List β}, mapO f l = some r → r.length = l.length ∧ ∀ (i : Nat) (x : α), l[i]? = some x → ∃ y, r[i]? = some y ∧ f x = some y
  | [], r, h => by simp [mapO] at h; subst h; simp
  | x :: l, r, h => by
    simp only [mapO] at h
    obtain ⟨y, h1, h⟩ := Option.bind_eq_some_iff.1 h
    obtain ⟨z, h2, rfl⟩ := Option.map_eq_some_iff.1 h
    obtain ⟨h3, h4⟩ := mapO_get h2
    refine ⟨by simp [h3], fun i x' hi => ?_⟩
    cases i with
    | zero => simp at hi; subst hi; exact ⟨y, rfl, h1⟩
    | succ i => simpa using h4 i x' (by simpa using hi)
/-- A load off any row of readable cells. -/
theorem load_core (hobj : ∀ o x s, ob o = some x → K.σ o = some s → RO K s x) (t : TypeId) {S : St} (hob : ob = obj S.o) {x y : T} {uy : Value}
    (hy : RT K y uy) (h : loadT P S t y = some x) : ∃ b o v, uy = .pointer (some ⟨b, o, none⟩) ∧ (loadVar t ⟨b, o, none⟩).run P K.w = .ok v K.w ∧ RT K x v := by
  unfold loadT at h
  obtain ⟨ag, h1, h⟩ := Option.bind_eq_some_iff.1 h
  obtain ⟨sz, h2, h⟩ := Option.bind_eq_some_iff.1 h
  have key : ∀ (b s off : Nat) (l : Nat → Option T), uy = .pointer (some ⟨b, s + off, none⟩) → (∀ j x, l j = some x → ∃ u, K.w.cell? ⟨b, s + j, none⟩ = some u ∧ RT K x u) →
      pick1 ag sz l off = some x → ∃ b o v, uy = .pointer (some ⟨b, o, none⟩) ∧ (loadVar t ⟨b, o, none⟩).run P K.w = .ok v K.w ∧ RT K x v := by
    intro b s off l e hl h
    unfold pick1 at h
    have run : ∀ v, (loadVar t ⟨b, s + off, none⟩).run P K.w = .ok v K.w → RT K x v → ∃ b o v, uy = .pointer (some ⟨b, o, none⟩) ∧ (loadVar t ⟨b, o, none⟩).run P K.w = .ok v K.w ∧ RT K x v := fun v hv r => ⟨b, s + off, v, e, hv, r⟩
    cases ag with
    | true =>
      simp only [if_true] at h
      obtain ⟨r, h3, rfl⟩ := Option.map_eq_some_iff.1 h
      obtain ⟨h4, h5⟩ := mapO_get h3
      simp at h4
      have hcell : ∀ j, j < sz → ∃ u, K.w.cell? ⟨b, s + off + j, none⟩ = some u ∧ ∃ x, r[j]? = some x ∧ RT K x u := fun j hj => by
        obtain ⟨x, hx, hf⟩ := h5 j j (by simp [hj])
        obtain ⟨u, hu, hr⟩ := hl _ _ hf
        exact ⟨u, by rw [← hu, Nat.add_assoc], x, hx, hr⟩
      let us : List Value := (List.range sz).map fun j => (K.w.cell? ⟨b, s + off + j, none⟩).getD undef
      have hus : ∀ j u, us[j]? = some u → K.w.cell? ⟨b, s + off + j, none⟩ = some u ∧ j < sz := fun j u hj => by
        have hlt : j < sz := by
          rcases Nat.lt_or_ge j sz with h' | h'
          · exact h'
          · simp [us, h'] at hj
        obtain ⟨u', hu', _⟩ := hcell j hlt
        simp [us, hlt, hu'] at hj
        exact ⟨by rw [hu', hj], hlt⟩
      refine run (.agg us.toArray) (run_loadVar_agg h1 h2 _ b (s + off) us (by simp [us]) fun j u hj => (hus j u hj).1) ?_
      simp only [RT]
      refine ⟨us, rfl, RTs_mk _ _ (by simp [us, h4]) fun j x u hx hu => ?_⟩
      obtain ⟨hc, hlt⟩ := hus j u hu
      obtain ⟨u', hu', x', hx', hr⟩ := hcell j hlt
      rw [hc] at hu'; obtain rfl := Option.some.inj hu'
      rw [hx] at hx'; obtain rfl := Option.some.inj hx'
      exact hr
    | false =>
      simp only [Bool.false_eq_true, if_false] at h
      obtain ⟨u, hu, hr⟩ := hl _ _ h
      exact run u (run_loadVar_one h1 _ _ _ _ hu) hr
  have row : ∀ (b s off : Nat) (l : List C), uy = .pointer (some ⟨b, s + off, none⟩) → RCs K.w K.F b s l →
      pick1 ag sz (fun j => (l[j]?).map T.c) off = some x → ∃ b o v, uy = .pointer (some ⟨b, o, none⟩) ∧ (loadVar t ⟨b, o, none⟩).run P K.w = .ok v K.w ∧ RT K x v := by
    intro b s off l e hl h
    refine key b s off (fun j => (l[j]?).map .c) e (fun j x hx => ?_) h
    obtain ⟨c, hc, rfl⟩ := Option.map_eq_some_iff.1 hx
    obtain ⟨u, hu, r⟩ := RCs_get _ _ _ _ hl hc
    exact ⟨u, hu, by simpa only [RT] using r⟩
  split at h
  · simp only [RT] at hy
    obtain ⟨b, sh, hs, e2⟩ := hy
    split at h
    · rename_i l hl
      have ho := hobj _ _ _ (by rw [hob]; exact hl) hs
      simp only [RO] at ho
      obtain ⟨b', cs, et, e3, _, _, hb, hr⟩ := ho
      obtain ⟨rfl, rfl⟩ := Prod.mk.inj (Option.some.inj e3)
      refine key b 0 _ (fun j => l[j]?) (by rw [e2]) (fun j x hx => ?_) h
      obtain ⟨u, hu, r⟩ := RTs_get _ _ _ _ hr hx
      exact ⟨u, by simpa [World.cell?, hb] using hu, r⟩
    · rename_i l gg ge hl
      have ho := hobj _ _ _ (by rw [hob]; exact hl) hs
      simp only [RO] at ho
      rcases ho with ⟨h6, _⟩ | ⟨b', sh', cs, et, e3, _, _, hb, hr⟩
      · simp at h6
      · obtain ⟨rfl, rfl⟩ := Prod.mk.inj (Option.some.inj e3)
        exact row b sh _ l e2 hr h
    · rename_i l hl
      have ho := hobj _ _ _ (by rw [hob]; exact hl) hs
      simp only [RO] at ho
      rcases ho with ⟨h6, _⟩ | ⟨b', sh', e3, _, hr⟩
      · simp at h6
      · obtain ⟨rfl, rfl⟩ := Prod.mk.inj (Option.some.inj e3)
        exact row b sh _ l e2 hr h
    · simp at h
  · simp only [RT] at hy
    obtain ⟨b, s, e2, _, hr⟩ := hy
    exact row b s _ _ e2 hr h
  · simp only [RT] at hy
    obtain ⟨b, e2, _, hr⟩ := hy
    have hget : ∀ (o : Nat) (l : List U), RBs K b o l → ∀ (j : Nat) (x : U), l[j]? = some x → ∃ u, K.w.cell? ⟨b, o + j, none⟩ = some u ∧ RU K x u := by
      intro o l
      induction l generalizing o with
      | nil => intro _ j x hx; simp at hx
      | cons y l ih =>
        intro hr j x hx
        simp only [RBs] at hr
        cases j with
        | zero => simp at hx; subst hx; exact hr.1
        | succ j =>
          obtain ⟨u, hu, r⟩ := ih (o + 1) hr.2 j x (by simpa using hx)
          exact ⟨u, by rw [← hu, show o + (j + 1) = o + 1 + j by omega], r⟩
    refine key b 0 _ (fun j => (_ : Option U).map U.toT) (by rw [e2]; simp) (fun j x hx => ?_) h
    obtain ⟨y, hy, rfl⟩ := Option.map_eq_some_iff.1 hx
    obtain ⟨u, hu, r⟩ := hget 0 _ hr j y hy
    exact ⟨u, hu, RU_toT.2 r⟩
  · simp at h
theorem load_sound (hobj : ∀ o x s, ob o = some x → K.σ o = some s → RO K s x) (t : TypeId) (y : Operand) (d : Option Nat) (ty : TypeId) (pos : String) (af : Array Edge) (g : Option (Nat × Bool)) {S : St} (hob : ob = obj S.o) {x : T}
    (hy : RT K (S.ev y) (a.eval y)) (h : loadT P S t (S.ev y) = some x) : Does P K n ob a ⟨d, .load t y, ty, pos, af, g⟩ x [] [] := by
  obtain ⟨b, o, v, e, hv, r⟩ := load_core (P := P) hobj t hob hy h
  refine .pure (val := v) ?_ r
  simp only [execOp]
  rw [run_value, e]
  simp only [Instr.loadAt, Instr.sureAddr, bind, Pure.pure, Sem.bind, hv, Result.andThen]
end
end Go.Proofs.YtnbijiopcgfmfaaGreat.Tev
