/- What the evaluator asks of this program: types, functions, loops (printed by wip/tools/tx.py; every equation checked by the kernel). -/
import Derived.Test.YtochkebkfoophaaProg
import Derived.Test.YtochkebkfoophaaTevSl
import Derived.KernelRfl
namespace Go.Proofs.Ytochkebkfoophaa.Tev
open Go Go.RowKit Go.Proofs
set_option maxRecDepth 100000
set_option linter.unusedVariables false
set_option linter.unusedSimpArgs false
set_option linter.unusedSectionVars false
structure LpRow where
  f : Nat
  id : Nat
  k1 : Keep
  k2 : Keep
  ow : List (Nat × Option Nat × Nat)
def rows : List LpRow := [
  ⟨3, 16, [(0, false), (1, false), (5, false), (6, false), (8, false), (9, false), (11, false), (13, false)], [(0, false), (1, false), (5, false), (6, false), (8, false)], []⟩,
  ⟨3, 9, [(0, false), (1, false), (5, false), (6, false), (8, false)], [], []⟩,
  ⟨8, 19, [(0, false), (1, false), (2, false), (12, false), (13, false), (14, false), (15, false), (16, false)], [(0, false), (1, false), (2, false), (12, false), (13, false), (14, false), (15, false)], []⟩,
  ⟨8, 15, [(0, false), (1, false), (2, false), (12, false), (13, false), (14, false)], [], []⟩,
  ⟨8, 7, [(0, false), (1, false), (2, false), (10, false)], [(0, false), (1, false), (2, false)], []⟩,
  ⟨12, 4, [(0, false), (1, false), (5, false)], [], []⟩,
  ⟨14, 8, [(0, false), (8, false), (23, false), (24, false), (25, false)], [(8, false)], [(8, none, 1)]⟩,
  ⟨15, 9, [(0, false), (7, false), (9, false), (10, false)], [(9, false)], [(9, none, 1)]⟩,
  ⟨16, 10, [(2, false), (10, false), (34, false), (35, false), (36, false)], [(10, false)], []⟩,
  ⟨17, 11, [(2, false), (9, false), (11, false), (12, false)], [(11, false)], []⟩,
  ⟨18, 8, [(1, false), (2, false), (6, false), (34, false), (35, false), (36, false)], [(2, false), (6, false)], [(6, some 1, 1), (6, some 2, 1)]⟩,
  ⟨19, 8, [(1, false), (2, false), (6, false), (7, false)], [(2, false), (6, false)], [(6, some 1, 1), (6, some 2, 1)]⟩,
  ⟨11, 21, [(0, false), (4, false), (5, false), (57, false), (58, false), (59, false)], [(4, false), (5, false)], [(4, none, 1), (5, none, 3)]⟩,
  ⟨11, 8, [(0, false), (1, false), (5, false), (8, false), (29, false), (30, false), (31, false)], [(0, false), (1, false), (5, false), (8, false)], []⟩,
  ⟨21, 14, [(0, false), (1, false), (9, false), (10, false), (11, false)], [(9, false), (10, false)], [(10, none, 3), (9, none, 1)]⟩,
  ⟨21, 6, [(0, false), (1, false), (7, false)], [(0, false), (1, false)], []⟩,
  ⟨22, 4, [(0, false), (1, false), (5, false)], [], []⟩,
  ⟨23, 22, [(0, false), (15, false), (16, false), (79, false), (80, false), (81, false)], [(15, false)], []⟩,
  ⟨23, 8, [(0, false), (1, false), (2, false), (9, false), (44, false), (45, false), (46, false)], [(0, false), (1, false), (2, false), (9, false)], []⟩,
  ⟨24, 17, [(0, false), (1, false), (2, false), (10, false), (11, false), (12, false), (13, false), (15, false)], [(0, false), (1, false), (2, false), (10, false), (11, false), (12, false)], []⟩,
  ⟨24, 12, [(0, false), (1, false), (2, false), (10, false), (11, false), (12, false)], [(2, false), (10, false)], []⟩,
  ⟨24, 4, [(0, false), (1, false), (2, false), (8, false)], [(0, false), (1, false), (2, false)], []⟩,
  ⟨25, 12, [(0, false), (6, false), (7, false), (19, false), (20, false), (21, false), (46, false), (47, false), (48, false)], [(0, false), (19, false), (20, false), (21, false)], []⟩,
  ⟨25, 5, [(0, false), (19, false), (20, false), (21, false)], [], []⟩,
  ⟨26, 7, [(0, false), (5, false), (6, false)], [(0, false), (5, false)], []⟩,
  ⟨26, 4, [(0, false), (5, false)], [], []⟩,
  ⟨27, 27, [(8, false), (19, false), (101, false), (102, false), (103, false)], [(19, false)], []⟩,
  ⟨27, 19, [(0, false), (2, false), (8, false), (83, false), (84, false), (85, false)], [(0, false), (2, false), (8, false)], []⟩,
  ⟨27, 13, [(0, false), (1, false), (2, false), (8, false), (50, false), (51, false), (52, false)], [(0, false), (1, false), (2, false), (8, false)], []⟩,
  ⟨27, 5, [(0, false), (1, false), (2, false), (8, false), (31, false), (32, false), (33, false)], [(0, false), (1, false), (2, false), (8, false)], [(8, none, 1)]⟩,
  ⟨38, 5, [(0, false), (5, false), (7, false)], [], []⟩,
  ⟨34, 10, [(4, false), (5, false)], [], []⟩,
  ⟨34, 4, [(1, false), (3, false)], [(1, false)], []⟩,
  ⟨35, 12, [(1, false), (3, false), (4, false), (5, false), (6, false), (7, false)], [(1, false), (3, false), (4, false), (5, false), (6, false)], [(5, none, 1)]⟩,
  ⟨35, 9, [(1, false), (3, false), (4, false), (5, false), (6, false)], [(1, false), (4, false), (5, false)], [(5, none, 1)]⟩,
  ⟨35, 5, [(1, false), (3, false), (4, false)], [(3, false)], []⟩,
  ⟨28, 4, [(8, false), (9, false), (10, false)], [], []⟩,
  ⟨31, 5, [(0, false), (15, false), (16, false), (17, false)], [], []⟩,
  ⟨33, 6, [(2, false), (4, false), (5, false), (15, false), (16, false), (17, false)], [(2, false), (4, false)], [(4, some 2, 1)]⟩,
  ⟨41, 2, [(0, false), (3, false)], [(0, false)], []⟩,
  ⟨42, 3, [(0, false), (3, false), (4, false)], [(3, false)], []⟩,
  ⟨44, 6, [(0, false), (2, false), (4, false), (5, false), (6, false)], [(2, false), (4, false)], [(4, some 2, 1)]⟩,
  ⟨45, 14, [(1, false), (4, false), (5, false), (6, false), (7, true), (8, false), (22, false), (23, false), (24, false), (35, false), (36, false), (37, false)], [(1, false), (4, false), (5, false), (6, false), (7, false), (8, false), (22, false), (23, false), (24, false)], [(4, none, 1)]⟩,
  ⟨45, 11, [(1, false), (4, false), (5, false), (6, false), (7, true), (8, false), (22, false), (23, false), (24, false)], [(1, false), (4, false), (22, false), (23, false), (24, false)], [(4, none, 1)]⟩,
  ⟨45, 7, [(1, false), (4, false), (22, false), (23, false), (24, false)], [(4, false)], [(4, none, 1)]⟩,
  ⟨47, 7, [(8, false), (10, false), (30, false), (31, false), (32, false)], [(8, false), (10, false)], []⟩,
  ⟨48, 11, [(6, false), (7, false), (9, false)], [], []⟩,
  ⟨48, 6, [(3, false), (6, false), (7, false), (8, false)], [(3, false), (6, false)], []⟩,
  ⟨49, 3, [(0, false), (3, false), (4, false)], [], []⟩,
  ⟨54, 5, [(0, false), (3, false), (4, false)], [(3, false)], []⟩,
  ⟨52, 5, [(3, false), (13, false), (14, false), (15, false)], [(3, false)], []⟩,
  ⟨53, 5, [(4, false), (6, false)], [], []⟩,
  ⟨58, 5, [(4, false), (5, false)], [], []⟩,
  ⟨68, 2, [(0, false), (1, false), (7, false), (8, false)], [], []⟩,
  ⟨65, 3, [(1, false), (2, false), (3, false), (12, false), (13, false), (14, false)], [(2, false), (3, false)], []⟩,
  ⟨66, 2, [(0, false), (1, false), (7, false), (8, false)], [], []⟩]
def rowOf : List LpRow → Nat → Nat → LpRow
  | [], _, _ => ⟨0, 0, [], [], []⟩
  | r :: l, f, id => bif r.f == f && r.id == id then r else rowOf l f id
def rets : List (Nat × Keep) := [(4, [(6, false)]), (5, [(2, false)]), (6, [(6, false)]), (3, [(4, false)]), (7, [(2, false)]), (8, [(6, false)]), (9, [(4, false)]), (10, [(0, false)]), (12, [(4, false)]), (14, [(4, false), (5, false)]), (15, [(4, false), (5, false)]), (16, [(6, false), (7, false)]), (17, [(6, false), (7, false)]), (13, [(2, false), (3, false)]), (18, [(2, false), (3, false)]), (19, [(2, false), (3, false)]), (20, [(4, false)]), (11, [(4, false), (5, false), (6, false)]), (21, [(4, false), (5, false), (6, false)]), (22, [(4, false)]), (23, [(6, false), (7, false)]), (24, [(6, false), (7, false)]), (25, [(2, false), (3, false), (4, false)]), (26, [(2, false), (3, false), (4, false)]), (27, [(6, false), (7, false)]), (36, [(4, false), (5, false)]), (37, [(2, false)]), (38, [(4, false)]), (32, [(2, false)]), (34, [(2, false)]), (35, [(2, false)]), (29, [(2, false), (3, false)]), (39, [(2, false), (3, false)]), (40, [(2, false)]), (28, [(2, false)]), (30, [(2, false)]), (31, [(4, false)]), (33, [(2, false), (3, false)]), (41, [(2, false)]), (42, [(2, false)]), (43, [(2, false)]), (44, [(2, false), (3, false)]), (45, [(2, false), (3, false)]), (46, [(2, false)]), (47, [(4, false), (5, false)]), (48, [(4, false), (5, false)]), (49, [(2, false)]), (56, [(4, false)]), (57, [(3, false)]), (54, [(2, false)]), (55, [(2, false)]), (50, [(2, false)]), (52, [(2, false)]), (51, [(4, false)]), (53, [(2, false), (3, false)]), (58, [(2, false), (3, false)]), (62, [(3, false)]), (68, [(4, false)]), (63, [(2, false)]), (65, [(2, false), (3, false)]), (67, [(2, false)]), (66, [(4, false)]), (64, [(2, false)])]
def retOf : List (Nat × Keep) → Nat → Keep
  | [], _ => []
  | r :: l, f => bif r.1 == f then r.2 else retOf l f
noncomputable def E0 : Env := ⟨Try.prog, fun f id => let r := rowOf rows f id; (r.k1, r.k2), fun f id => (rowOf rows f id).ow, fun f => retOf rets f, fun f id => if f = 21 ∧ id = 21 then [12] else []⟩
theorem E0fz (f id : Nat) : E0.fz f id = if f = 21 ∧ id = 21 then [12] else [] := rfl
theorem E0P : E0.P = Try.prog := rfl
def codeOf (fn : Func) : Code := fn.body.getD .skip
def loopIn (fn : Func) (id : Nat) : Code := (fn.body.bind (findLoop id)).getD .skip
theorem ty3 : szOf Try.prog 3 = some 1 ∧ bytesOf Try.prog 3 = some 8 ∧ zeroOf Try.prog 3 = some [.c (.v (.int .i64 0))] ∧ aggOf Try.prog 3 = some false ∧ zero1 Try.prog 3 = some (.c (.v (.int .i64 0))) ∧ cellTys Try.prog 8 3 = some [none] := ⟨by kernel_rfl, by kernel_rfl, by kernel_rfl, by kernel_rfl, by kernel_rfl, by kernel_rfl⟩
theorem ty4 : szOf Try.prog 4 = some 1 ∧ bytesOf Try.prog 4 = some 1 ∧ zeroOf Try.prog 4 = some [B false] ∧ aggOf Try.prog 4 = some false ∧ zero1 Try.prog 4 = some (B false) ∧ Try.prog.underlying 4 = some .bool ∧ cellTys Try.prog 8 4 = some [none] := ⟨by kernel_rfl, by kernel_rfl, by kernel_rfl, by kernel_rfl, by kernel_rfl, by kernel_rfl, by kernel_rfl⟩
theorem ty9 : szOf Try.prog 9 = some 1 ∧ bytesOf Try.prog 9 = some 16 ∧ zeroOf Try.prog 9 = some [.c (.v (.string ⟨#[]⟩))] ∧ aggOf Try.prog 9 = some false ∧ zero1 Try.prog 9 = some (.c (.v (.string ⟨#[]⟩))) ∧ Try.prog.underlying 9 = some .string ∧ cellTys Try.prog 8 9 = some [none] := ⟨by kernel_rfl, by kernel_rfl, by kernel_rfl, by kernel_rfl, by kernel_rfl, by kernel_rfl, by kernel_rfl⟩
theorem ty22 : szOf Try.prog 22 = some 1 ∧ bytesOf Try.prog 22 = some 24 ∧ zeroOf Try.prog 22 = some [.c (.s (some 0) 0 [])] ∧ aggOf Try.prog 22 = some false ∧ zero1 Try.prog 22 = some (.c (.s (some 0) 0 [])) ∧ elemOf Try.prog 22 = some 3 ∧ Try.prog.underlying 22 = some (.slice 3) ∧ cellTys Try.prog 8 22 = some [some 1] := ⟨by kernel_rfl, by kernel_rfl, by kernel_rfl, by kernel_rfl, by kernel_rfl, by kernel_rfl, by kernel_rfl, by kernel_rfl⟩
theorem ty23 : szOf Try.prog 23 = some 1 ∧ bytesOf Try.prog 23 = some 24 ∧ zeroOf Try.prog 23 = some [.c (.s (some 0) 0 [])] ∧ aggOf Try.prog 23 = some false ∧ zero1 Try.prog 23 = some (.c (.s (some 0) 0 [])) ∧ elemOf Try.prog 23 = some 36 ∧ Try.prog.underlying 23 = some (.slice 36) ∧ cellTys Try.prog 8 23 = some [some 5] := ⟨by kernel_rfl, by kernel_rfl, by kernel_rfl, by kernel_rfl, by kernel_rfl, by kernel_rfl, by kernel_rfl, by kernel_rfl⟩
theorem ty26 : szOf Try.prog 26 = some 1 ∧ bytesOf Try.prog 26 = some 24 ∧ zeroOf Try.prog 26 = some [.c (.s (some 0) 0 [])] ∧ aggOf Try.prog 26 = some false ∧ zero1 Try.prog 26 = some (.c (.s (some 0) 0 [])) ∧ elemOf Try.prog 26 = some 34 ∧ Try.prog.underlying 26 = some (.slice 34) ∧ cellTys Try.prog 8 26 = some [some 3] := ⟨by kernel_rfl, by kernel_rfl, by kernel_rfl, by kernel_rfl, by kernel_rfl, by kernel_rfl, by kernel_rfl, by kernel_rfl⟩
theorem ty27 : szOf Try.prog 27 = some 1 ∧ bytesOf Try.prog 27 = some 8 ∧ zeroOf Try.prog 27 = some [.c (.v (.int .i64 0))] ∧ aggOf Try.prog 27 = some false ∧ zero1 Try.prog 27 = some (.c (.v (.int .i64 0))) ∧ cellTys Try.prog 8 27 = some [none] := ⟨by kernel_rfl, by kernel_rfl, by kernel_rfl, by kernel_rfl, by kernel_rfl, by kernel_rfl⟩
theorem ty34 : szOf Try.prog 34 = some 3 ∧ bytesOf Try.prog 34 = some 56 ∧ zeroOf Try.prog 34 = some [.c (.v (.int .i64 0)), .c (.s (some 0) 0 []), .c (.s (some 0) 0 [])] ∧ aggOf Try.prog 34 = some true ∧ fieldOf Try.prog 34 0 = some (0, 3) ∧ fieldOf Try.prog 34 1 = some (1, 22) ∧ fieldOf Try.prog 34 2 = some (2, 22) ∧ placesOf Try.prog 34 = some (.st [(0, 1), (1, 1), (2, 1)]) ∧ cellTys Try.prog 8 34 = some [none, some 1, some 1] := ⟨by kernel_rfl, by kernel_rfl, by kernel_rfl, by kernel_rfl, by kernel_rfl, by kernel_rfl, by kernel_rfl, by kernel_rfl, by kernel_rfl⟩
theorem ty36 : szOf Try.prog 36 = some 5 ∧ bytesOf Try.prog 36 = some 80 ∧ zeroOf Try.prog 36 = some [.c (.v (.int .i64 0)), .c (.s (some 0) 0 []), .c (.s (some 0) 0 []), .c (.v (.string ⟨#[]⟩)), B false] ∧ aggOf Try.prog 36 = some true ∧ fieldOf Try.prog 36 0 = some (0, 34) ∧ fieldOf Try.prog 36 1 = some (3, 9) ∧ fieldOf Try.prog 36 2 = some (4, 4) ∧ placesOf Try.prog 36 = some (.st [(0, 3), (3, 1), (4, 1)]) ∧ cellTys Try.prog 8 36 = some [none, some 1, some 1, none, none] := ⟨by kernel_rfl, by kernel_rfl, by kernel_rfl, by kernel_rfl, by kernel_rfl, by kernel_rfl, by kernel_rfl, by kernel_rfl, by kernel_rfl⟩
theorem ty50 : szOf Try.prog 50 = some 1 ∧ bytesOf Try.prog 50 = some 24 ∧ zeroOf Try.prog 50 = some [.c (.s (some 0) 0 [])] ∧ aggOf Try.prog 50 = some false ∧ zero1 Try.prog 50 = some (.c (.s (some 0) 0 [])) ∧ elemOf Try.prog 50 = some 52 ∧ Try.prog.underlying 50 = some (.slice 52) ∧ cellTys Try.prog 8 50 = some [some 4] := ⟨by kernel_rfl, by kernel_rfl, by kernel_rfl, by kernel_rfl, by kernel_rfl, by kernel_rfl, by kernel_rfl, by kernel_rfl⟩
theorem ty52 : szOf Try.prog 52 = some 4 ∧ bytesOf Try.prog 52 = some 32 ∧ zeroOf Try.prog 52 = some [.c (.v (.int .i64 0)), .c (.v (.int .i64 0)), .c (.v (.int .i64 0)), B false] ∧ aggOf Try.prog 52 = some true ∧ fieldOf Try.prog 52 0 = some (0, 3) ∧ fieldOf Try.prog 52 1 = some (1, 3) ∧ fieldOf Try.prog 52 2 = some (2, 3) ∧ fieldOf Try.prog 52 3 = some (3, 4) ∧ placesOf Try.prog 52 = some (.st [(0, 1), (1, 1), (2, 1), (3, 1)]) ∧ cellTys Try.prog 8 52 = some [none, none, none, none] := ⟨by kernel_rfl, by kernel_rfl, by kernel_rfl, by kernel_rfl, by kernel_rfl, by kernel_rfl, by kernel_rfl, by kernel_rfl, by kernel_rfl, by kernel_rfl⟩
theorem ty53 : szOf Try.prog 53 = some 1 ∧ bytesOf Try.prog 53 = some 24 ∧ zeroOf Try.prog 53 = some [.c (.s (some 0) 0 [])] ∧ aggOf Try.prog 53 = some false ∧ zero1 Try.prog 53 = some (.c (.s (some 0) 0 [])) ∧ elemOf Try.prog 53 = some 9 ∧ Try.prog.underlying 53 = some (.slice 9) ∧ cellTys Try.prog 8 53 = some [some 1] := ⟨by kernel_rfl, by kernel_rfl, by kernel_rfl, by kernel_rfl, by kernel_rfl, by kernel_rfl, by kernel_rfl, by kernel_rfl⟩
theorem ty70 : szOf Try.prog 70 = some 1 ∧ bytesOf Try.prog 70 = some 24 ∧ zeroOf Try.prog 70 = some [.c (.s (some 0) 0 [])] ∧ aggOf Try.prog 70 = some false ∧ zero1 Try.prog 70 = some (.c (.s (some 0) 0 [])) ∧ elemOf Try.prog 70 = some 22 ∧ Try.prog.underlying 70 = some (.slice 22) ∧ cellTys Try.prog 8 70 = some [some 1] := ⟨by kernel_rfl, by kernel_rfl, by kernel_rfl, by kernel_rfl, by kernel_rfl, by kernel_rfl, by kernel_rfl, by kernel_rfl⟩
theorem ty80 : szOf Try.prog 80 = some 1 ∧ bytesOf Try.prog 80 = some 8 ∧ zeroOf Try.prog 80 = some [.junk] ∧ aggOf Try.prog 80 = some false ∧ zero1 Try.prog 80 = some (.junk) ∧ isIntMap Try.prog 80 = some 4 ∧ Try.prog.underlying 80 = some (.map 3 4) ∧ cellTys Try.prog 8 80 = some [none] := ⟨by kernel_rfl, by kernel_rfl, by kernel_rfl, by kernel_rfl, by kernel_rfl, by kernel_rfl, by kernel_rfl, by kernel_rfl⟩
theorem tb4 : (∀ x y a b, bin2 Try.prog .eql 4 x y (.c (.v (.bool a))) (.c (.v (.bool b))) = some (B (decide (a = b)))) ∧ ∀ x y a b, bin2 Try.prog .neq 4 x y (.c (.v (.bool a))) (.c (.v (.bool b))) = some (B (decide (¬ a = b))) := ⟨fun x y a b => bin_eqlB (by kernel_rfl) x y a b, fun x y a b => bin_neqB (by kernel_rfl) x y a b⟩
/-! quadrat/quadratlaw24.ArguePacks -/
theorem fn4 : E0.P.funcs[4]? = some Try.f4 := Try.func4
theorem body4 : Try.f4.body = some (codeOf Try.f4) := by kernel_rfl
theorem ok4 : okFunc Try.f4 = true := by kernel_rfl
theorem kr4 : E0.kr 4 = [(6, false)] := by kernel_rfl
/-! quadrat/quadratlaw24.ArgueStrips -/
theorem fn5 : E0.P.funcs[5]? = some Try.f5 := Try.func5
theorem body5 : Try.f5.body = some (codeOf Try.f5) := by kernel_rfl
theorem ok5 : okFunc Try.f5 = true := by kernel_rfl
theorem kr5 : E0.kr 5 = [(2, false)] := by kernel_rfl
/-! quadrat/quadratlaw24.ArgueEnters -/
theorem fn6 : E0.P.funcs[6]? = some Try.f6 := Try.func6
theorem body6 : Try.f6.body = some (codeOf Try.f6) := by kernel_rfl
theorem ok6 : okFunc Try.f6 = true := by kernel_rfl
theorem kr6 : E0.kr 6 = [(6, false)] := by kernel_rfl
/-! quadrat/quadratlaw24.ArgueSees -/
theorem fn3 : E0.P.funcs[3]? = some Try.f3 := Try.func3
theorem body3 : Try.f3.body = some (codeOf Try.f3) := by kernel_rfl
theorem ok3 : okFunc Try.f3 = true := by kernel_rfl
theorem kr3 : E0.kr 3 = [(4, false)] := by kernel_rfl
theorem kp3_16 : E0.kp 3 16 = ([(0, false), (1, false), (5, false), (6, false), (8, false), (9, false), (11, false), (13, false)], [(0, false), (1, false), (5, false), (6, false), (8, false)]) := by kernel_rfl
theorem ow3_16 : E0.own 3 16 = [] := by kernel_rfl
theorem lp3_16 : ((E0.P.funcs[3]?).bind fun fn => fn.body.bind (findLoop 16)) = some (loopIn Try.f3 16) := by kernel_rfl
theorem kp3_9 : E0.kp 3 9 = ([(0, false), (1, false), (5, false), (6, false), (8, false)], []) := by kernel_rfl
theorem ow3_9 : E0.own 3 9 = [] := by kernel_rfl
theorem lp3_9 : ((E0.P.funcs[3]?).bind fun fn => fn.body.bind (findLoop 9)) = some (loopIn Try.f3 9) := by kernel_rfl
/-! quadrat/quadratlaw24.ArgueAliases -/
theorem fn7 : E0.P.funcs[7]? = some Try.f7 := Try.func7
theorem body7 : Try.f7.body = some (codeOf Try.f7) := by kernel_rfl
theorem ok7 : okFunc Try.f7 = true := by kernel_rfl
theorem kr7 : E0.kr 7 = [(2, false)] := by kernel_rfl
/-! quadrat/quadratlaw24.ArgueWays -/
theorem fn8 : E0.P.funcs[8]? = some Try.f8 := Try.func8
theorem body8 : Try.f8.body = some (codeOf Try.f8) := by kernel_rfl
theorem ok8 : okFunc Try.f8 = true := by kernel_rfl
theorem kr8 : E0.kr 8 = [(6, false)] := by kernel_rfl
theorem kp8_19 : E0.kp 8 19 = ([(0, false), (1, false), (2, false), (12, false), (13, false), (14, false), (15, false), (16, false)], [(0, false), (1, false), (2, false), (12, false), (13, false), (14, false), (15, false)]) := by kernel_rfl
theorem ow8_19 : E0.own 8 19 = [] := by kernel_rfl
theorem lp8_19 : ((E0.P.funcs[8]?).bind fun fn => fn.body.bind (findLoop 19)) = some (loopIn Try.f8 19) := by kernel_rfl
theorem kp8_15 : E0.kp 8 15 = ([(0, false), (1, false), (2, false), (12, false), (13, false), (14, false)], []) := by kernel_rfl
theorem ow8_15 : E0.own 8 15 = [] := by kernel_rfl
theorem lp8_15 : ((E0.P.funcs[8]?).bind fun fn => fn.body.bind (findLoop 15)) = some (loopIn Try.f8 15) := by kernel_rfl
theorem kp8_7 : E0.kp 8 7 = ([(0, false), (1, false), (2, false), (10, false)], [(0, false), (1, false), (2, false)]) := by kernel_rfl
theorem ow8_7 : E0.own 8 7 = [] := by kernel_rfl
theorem lp8_7 : ((E0.P.funcs[8]?).bind fun fn => fn.body.bind (findLoop 7)) = some (loopIn Try.f8 7) := by kernel_rfl
/-! quadrat/quadratlaw24.Large -/
theorem fn9 : E0.P.funcs[9]? = some Try.f9 := Try.func9
theorem body9 : Try.f9.body = some (codeOf Try.f9) := by kernel_rfl
theorem ok9 : okFunc Try.f9 = true := by kernel_rfl
theorem kr9 : E0.kr 9 = [(4, false)] := by kernel_rfl
/-! quadrat/quadratlaw24.Awake -/
theorem fn10 : E0.P.funcs[10]? = some Try.f10 := Try.func10
theorem body10 : Try.f10.body = some (codeOf Try.f10) := by kernel_rfl
theorem ok10 : okFunc Try.f10 = true := by kernel_rfl
theorem kr10 : E0.kr 10 = [(0, false)] := by kernel_rfl
/-! quadrat/quadratref06.SameInts -/
theorem fn12 : E0.P.funcs[12]? = some Try.f12 := Try.func12
theorem body12 : Try.f12.body = some (codeOf Try.f12) := by kernel_rfl
theorem ok12 : okFunc Try.f12 = true := by kernel_rfl
theorem kr12 : E0.kr 12 = [(4, false)] := by kernel_rfl
theorem kp12_4 : E0.kp 12 4 = ([(0, false), (1, false), (5, false)], []) := by kernel_rfl
theorem ow12_4 : E0.own 12 4 = [] := by kernel_rfl
theorem lp12_4 : ((E0.P.funcs[12]?).bind fun fn => fn.body.bind (findLoop 4)) = some (loopIn Try.f12 4) := by kernel_rfl
/-! quadrat/argue.Pack -/
theorem fn14 : E0.P.funcs[14]? = some Try.f14 := Try.func14
theorem body14 : Try.f14.body = some (codeOf Try.f14) := by kernel_rfl
theorem ok14 : okFunc Try.f14 = true := by kernel_rfl
theorem kr14 : E0.kr 14 = [(4, false), (5, false)] := by kernel_rfl
theorem kp14_8 : E0.kp 14 8 = ([(0, false), (8, false), (23, false), (24, false), (25, false)], [(8, false)]) := by kernel_rfl
theorem ow14_8 : E0.own 14 8 = [(8, none, 1)] := by kernel_rfl
theorem lp14_8 : ((E0.P.funcs[14]?).bind fun fn => fn.body.bind (findLoop 8)) = some (loopIn Try.f14 8) := by kernel_rfl
/-! quadrat/quadratref24.Pack -/
theorem fn15 : E0.P.funcs[15]? = some Try.f15 := Try.func15
theorem body15 : Try.f15.body = some (codeOf Try.f15) := by kernel_rfl
theorem ok15 : okFunc Try.f15 = true := by kernel_rfl
theorem kr15 : E0.kr 15 = [(4, false), (5, false)] := by kernel_rfl
theorem kp15_9 : E0.kp 15 9 = ([(0, false), (7, false), (9, false), (10, false)], [(9, false)]) := by kernel_rfl
theorem ow15_9 : E0.own 15 9 = [(9, none, 1)] := by kernel_rfl
theorem lp15_9 : ((E0.P.funcs[15]?).bind fun fn => fn.body.bind (findLoop 9)) = some (loopIn Try.f15 9) := by kernel_rfl
/-! quadrat/argue.Unpack -/
theorem fn16 : E0.P.funcs[16]? = some Try.f16 := Try.func16
theorem body16 : Try.f16.body = some (codeOf Try.f16) := by kernel_rfl
theorem ok16 : okFunc Try.f16 = true := by kernel_rfl
theorem kr16 : E0.kr 16 = [(6, false), (7, false)] := by kernel_rfl
theorem kp16_10 : E0.kp 16 10 = ([(2, false), (10, false), (34, false), (35, false), (36, false)], [(10, false)]) := by kernel_rfl
theorem ow16_10 : E0.own 16 10 = [] := by kernel_rfl
theorem lp16_10 : ((E0.P.funcs[16]?).bind fun fn => fn.body.bind (findLoop 10)) = some (loopIn Try.f16 10) := by kernel_rfl
/-! quadrat/quadratref24.Unpack -/
theorem fn17 : E0.P.funcs[17]? = some Try.f17 := Try.func17
theorem body17 : Try.f17.body = some (codeOf Try.f17) := by kernel_rfl
theorem ok17 : okFunc Try.f17 = true := by kernel_rfl
theorem kr17 : E0.kr 17 = [(6, false), (7, false)] := by kernel_rfl
theorem kp17_11 : E0.kp 17 11 = ([(2, false), (9, false), (11, false), (12, false)], [(11, false)]) := by kernel_rfl
theorem ow17_11 : E0.own 17 11 = [] := by kernel_rfl
theorem lp17_11 : ((E0.P.funcs[17]?).bind fun fn => fn.body.bind (findLoop 11)) = some (loopIn Try.f17 11) := by kernel_rfl
/-! quadrat/quadratref06.Places -/
theorem fn13 : E0.P.funcs[13]? = some Try.f13 := Try.func13
theorem body13 : Try.f13.body = some (codeOf Try.f13) := by kernel_rfl
theorem ok13 : okFunc Try.f13 = true := by kernel_rfl
theorem kr13 : E0.kr 13 = [(2, false), (3, false)] := by kernel_rfl
/-! quadrat/argue.Strip -/
theorem fn18 : E0.P.funcs[18]? = some Try.f18 := Try.func18
theorem body18 : Try.f18.body = some (codeOf Try.f18) := by kernel_rfl
theorem ok18 : okFunc Try.f18 = true := by kernel_rfl
theorem kr18 : E0.kr 18 = [(2, false), (3, false)] := by kernel_rfl
theorem kp18_8 : E0.kp 18 8 = ([(1, false), (2, false), (6, false), (34, false), (35, false), (36, false)], [(2, false), (6, false)]) := by kernel_rfl
theorem ow18_8 : E0.own 18 8 = [(6, some 1, 1), (6, some 2, 1)] := by kernel_rfl
theorem lp18_8 : ((E0.P.funcs[18]?).bind fun fn => fn.body.bind (findLoop 8)) = some (loopIn Try.f18 8) := by kernel_rfl
/-! quadrat/quadratref24.Strip -/
theorem fn19 : E0.P.funcs[19]? = some Try.f19 := Try.func19
theorem body19 : Try.f19.body = some (codeOf Try.f19) := by kernel_rfl
theorem ok19 : okFunc Try.f19 = true := by kernel_rfl
theorem kr19 : E0.kr 19 = [(2, false), (3, false)] := by kernel_rfl
theorem kp19_8 : E0.kp 19 8 = ([(1, false), (2, false), (6, false), (7, false)], [(2, false), (6, false)]) := by kernel_rfl
theorem ow19_8 : E0.own 19 8 = [(6, some 1, 1), (6, some 2, 1)] := by kernel_rfl
theorem lp19_8 : ((E0.P.funcs[19]?).bind fun fn => fn.body.bind (findLoop 8)) = some (loopIn Try.f19 8) := by kernel_rfl
/-! quadrat/quadratref06.Same -/
theorem fn20 : E0.P.funcs[20]? = some Try.f20 := Try.func20
theorem body20 : Try.f20.body = some (codeOf Try.f20) := by kernel_rfl
theorem ok20 : okFunc Try.f20 = true := by kernel_rfl
theorem kr20 : E0.kr 20 = [(4, false)] := by kernel_rfl
/-! quadrat/argue.Enter -/
theorem fn11 : E0.P.funcs[11]? = some Try.f11 := Try.func11
theorem body11 : Try.f11.body = some (codeOf Try.f11) := by kernel_rfl
theorem ok11 : okFunc Try.f11 = true := by kernel_rfl
theorem kr11 : E0.kr 11 = [(4, false), (5, false), (6, false)] := by kernel_rfl
theorem kp11_21 : E0.kp 11 21 = ([(0, false), (4, false), (5, false), (57, false), (58, false), (59, false)], [(4, false), (5, false)]) := by kernel_rfl
theorem ow11_21 : E0.own 11 21 = [(4, none, 1), (5, none, 3)] := by kernel_rfl
theorem lp11_21 : ((E0.P.funcs[11]?).bind fun fn => fn.body.bind (findLoop 21)) = some (loopIn Try.f11 21) := by kernel_rfl
theorem kp11_8 : E0.kp 11 8 = ([(0, false), (1, false), (5, false), (8, false), (29, false), (30, false), (31, false)], [(0, false), (1, false), (5, false), (8, false)]) := by kernel_rfl
theorem ow11_8 : E0.own 11 8 = [] := by kernel_rfl
theorem lp11_8 : ((E0.P.funcs[11]?).bind fun fn => fn.body.bind (findLoop 8)) = some (loopIn Try.f11 8) := by kernel_rfl
/-! quadrat/quadratref24.Enter -/
theorem fn21 : E0.P.funcs[21]? = some Try.f21 := Try.func21
theorem body21 : Try.f21.body = some (codeOf Try.f21) := by kernel_rfl
theorem ok21 : okFunc Try.f21 = true := by kernel_rfl
theorem kr21 : E0.kr 21 = [(4, false), (5, false), (6, false)] := by kernel_rfl
theorem kp21_14 : E0.kp 21 14 = ([(0, false), (1, false), (9, false), (10, false), (11, false)], [(9, false), (10, false)]) := by kernel_rfl
theorem ow21_14 : E0.own 21 14 = [(10, none, 3), (9, none, 1)] := by kernel_rfl
theorem lp21_14 : ((E0.P.funcs[21]?).bind fun fn => fn.body.bind (findLoop 14)) = some (loopIn Try.f21 14) := by kernel_rfl
theorem kp21_6 : E0.kp 21 6 = ([(0, false), (1, false), (7, false)], [(0, false), (1, false)]) := by kernel_rfl
theorem ow21_6 : E0.own 21 6 = [] := by kernel_rfl
theorem lp21_6 : ((E0.P.funcs[21]?).bind fun fn => fn.body.bind (findLoop 6)) = some (loopIn Try.f21 6) := by kernel_rfl
/-! quadrat/quadratlaw24.sameDescs -/
theorem fn22 : E0.P.funcs[22]? = some Try.f22 := Try.func22
theorem body22 : Try.f22.body = some (codeOf Try.f22) := by kernel_rfl
theorem ok22 : okFunc Try.f22 = true := by kernel_rfl
theorem kr22 : E0.kr 22 = [(4, false)] := by kernel_rfl
theorem kp22_4 : E0.kp 22 4 = ([(0, false), (1, false), (5, false)], []) := by kernel_rfl
theorem ow22_4 : E0.own 22 4 = [] := by kernel_rfl
theorem lp22_4 : ((E0.P.funcs[22]?).bind fun fn => fn.body.bind (findLoop 4)) = some (loopIn Try.f22 4) := by kernel_rfl
/-! quadrat/argue.Leave -/
theorem fn23 : E0.P.funcs[23]? = some Try.f23 := Try.func23
theorem body23 : Try.f23.body = some (codeOf Try.f23) := by kernel_rfl
theorem ok23 : okFunc Try.f23 = true := by kernel_rfl
theorem kr23 : E0.kr 23 = [(6, false), (7, false)] := by kernel_rfl
theorem kp23_22 : E0.kp 23 22 = ([(0, false), (15, false), (16, false), (79, false), (80, false), (81, false)], [(15, false)]) := by kernel_rfl
theorem ow23_22 : E0.own 23 22 = [] := by kernel_rfl
theorem lp23_22 : ((E0.P.funcs[23]?).bind fun fn => fn.body.bind (findLoop 22)) = some (loopIn Try.f23 22) := by kernel_rfl
theorem kp23_8 : E0.kp 23 8 = ([(0, false), (1, false), (2, false), (9, false), (44, false), (45, false), (46, false)], [(0, false), (1, false), (2, false), (9, false)]) := by kernel_rfl
theorem ow23_8 : E0.own 23 8 = [] := by kernel_rfl
theorem lp23_8 : ((E0.P.funcs[23]?).bind fun fn => fn.body.bind (findLoop 8)) = some (loopIn Try.f23 8) := by kernel_rfl
/-! quadrat/quadratref24.Leave -/
theorem fn24 : E0.P.funcs[24]? = some Try.f24 := Try.func24
theorem body24 : Try.f24.body = some (codeOf Try.f24) := by kernel_rfl
theorem ok24 : okFunc Try.f24 = true := by kernel_rfl
theorem kr24 : E0.kr 24 = [(6, false), (7, false)] := by kernel_rfl
theorem kp24_17 : E0.kp 24 17 = ([(0, false), (1, false), (2, false), (10, false), (11, false), (12, false), (13, false), (15, false)], [(0, false), (1, false), (2, false), (10, false), (11, false), (12, false)]) := by kernel_rfl
theorem ow24_17 : E0.own 24 17 = [] := by kernel_rfl
theorem lp24_17 : ((E0.P.funcs[24]?).bind fun fn => fn.body.bind (findLoop 17)) = some (loopIn Try.f24 17) := by kernel_rfl
theorem kp24_12 : E0.kp 24 12 = ([(0, false), (1, false), (2, false), (10, false), (11, false), (12, false)], [(2, false), (10, false)]) := by kernel_rfl
theorem ow24_12 : E0.own 24 12 = [] := by kernel_rfl
theorem lp24_12 : ((E0.P.funcs[24]?).bind fun fn => fn.body.bind (findLoop 12)) = some (loopIn Try.f24 12) := by kernel_rfl
theorem kp24_4 : E0.kp 24 4 = ([(0, false), (1, false), (2, false), (8, false)], [(0, false), (1, false), (2, false)]) := by kernel_rfl
theorem ow24_4 : E0.own 24 4 = [] := by kernel_rfl
theorem lp24_4 : ((E0.P.funcs[24]?).bind fun fn => fn.body.bind (findLoop 4)) = some (loopIn Try.f24 4) := by kernel_rfl
/-! quadrat/argue.Alias -/
theorem fn25 : E0.P.funcs[25]? = some Try.f25 := Try.func25
theorem body25 : Try.f25.body = some (codeOf Try.f25) := by kernel_rfl
theorem ok25 : okFunc Try.f25 = true := by kernel_rfl
theorem kr25 : E0.kr 25 = [(2, false), (3, false), (4, false)] := by kernel_rfl
theorem kp25_12 : E0.kp 25 12 = ([(0, false), (6, false), (7, false), (19, false), (20, false), (21, false), (46, false), (47, false), (48, false)], [(0, false), (19, false), (20, false), (21, false)]) := by kernel_rfl
theorem ow25_12 : E0.own 25 12 = [] := by kernel_rfl
theorem lp25_12 : ((E0.P.funcs[25]?).bind fun fn => fn.body.bind (findLoop 12)) = some (loopIn Try.f25 12) := by kernel_rfl
theorem kp25_5 : E0.kp 25 5 = ([(0, false), (19, false), (20, false), (21, false)], []) := by kernel_rfl
theorem ow25_5 : E0.own 25 5 = [] := by kernel_rfl
theorem lp25_5 : ((E0.P.funcs[25]?).bind fun fn => fn.body.bind (findLoop 5)) = some (loopIn Try.f25 5) := by kernel_rfl
/-! quadrat/quadratref24.Alias -/
theorem fn26 : E0.P.funcs[26]? = some Try.f26 := Try.func26
theorem body26 : Try.f26.body = some (codeOf Try.f26) := by kernel_rfl
theorem ok26 : okFunc Try.f26 = true := by kernel_rfl
theorem kr26 : E0.kr 26 = [(2, false), (3, false), (4, false)] := by kernel_rfl
theorem kp26_7 : E0.kp 26 7 = ([(0, false), (5, false), (6, false)], [(0, false), (5, false)]) := by kernel_rfl
theorem ow26_7 : E0.own 26 7 = [] := by kernel_rfl
theorem lp26_7 : ((E0.P.funcs[26]?).bind fun fn => fn.body.bind (findLoop 7)) = some (loopIn Try.f26 7) := by kernel_rfl
theorem kp26_4 : E0.kp 26 4 = ([(0, false), (5, false)], []) := by kernel_rfl
theorem ow26_4 : E0.own 26 4 = [] := by kernel_rfl
theorem lp26_4 : ((E0.P.funcs[26]?).bind fun fn => fn.body.bind (findLoop 4)) = some (loopIn Try.f26 4) := by kernel_rfl
/-! quadrat/argue.Do -/
theorem fn27 : E0.P.funcs[27]? = some Try.f27 := Try.func27
theorem body27 : Try.f27.body = some (codeOf Try.f27) := by kernel_rfl
theorem ok27 : okFunc Try.f27 = true := by kernel_rfl
theorem kr27 : E0.kr 27 = [(6, false), (7, false)] := by kernel_rfl
theorem kp27_27 : E0.kp 27 27 = ([(8, false), (19, false), (101, false), (102, false), (103, false)], [(19, false)]) := by kernel_rfl
theorem ow27_27 : E0.own 27 27 = [] := by kernel_rfl
theorem lp27_27 : ((E0.P.funcs[27]?).bind fun fn => fn.body.bind (findLoop 27)) = some (loopIn Try.f27 27) := by kernel_rfl
theorem kp27_19 : E0.kp 27 19 = ([(0, false), (2, false), (8, false), (83, false), (84, false), (85, false)], [(0, false), (2, false), (8, false)]) := by kernel_rfl
theorem ow27_19 : E0.own 27 19 = [] := by kernel_rfl
theorem lp27_19 : ((E0.P.funcs[27]?).bind fun fn => fn.body.bind (findLoop 19)) = some (loopIn Try.f27 19) := by kernel_rfl
theorem kp27_13 : E0.kp 27 13 = ([(0, false), (1, false), (2, false), (8, false), (50, false), (51, false), (52, false)], [(0, false), (1, false), (2, false), (8, false)]) := by kernel_rfl
theorem ow27_13 : E0.own 27 13 = [] := by kernel_rfl
theorem lp27_13 : ((E0.P.funcs[27]?).bind fun fn => fn.body.bind (findLoop 13)) = some (loopIn Try.f27 13) := by kernel_rfl
theorem kp27_5 : E0.kp 27 5 = ([(0, false), (1, false), (2, false), (8, false), (31, false), (32, false), (33, false)], [(0, false), (1, false), (2, false), (8, false)]) := by kernel_rfl
theorem ow27_5 : E0.own 27 5 = [(8, none, 1)] := by kernel_rfl
theorem lp27_5 : ((E0.P.funcs[27]?).bind fun fn => fn.body.bind (findLoop 5)) = some (loopIn Try.f27 5) := by kernel_rfl
/-! quadrat/argue.asked -/
theorem fn36 : E0.P.funcs[36]? = some Try.f36 := Try.func36
theorem body36 : Try.f36.body = some (codeOf Try.f36) := by kernel_rfl
theorem ok36 : okFunc Try.f36 = true := by kernel_rfl
theorem kr36 : E0.kr 36 = [(4, false), (5, false)] := by kernel_rfl
/-! quadrat/quadratref24.Small -/
theorem fn37 : E0.P.funcs[37]? = some Try.f37 := Try.func37
theorem body37 : Try.f37.body = some (codeOf Try.f37) := by kernel_rfl
theorem ok37 : okFunc Try.f37 = true := by kernel_rfl
theorem kr37 : E0.kr 37 = [(2, false)] := by kernel_rfl
/-! quadrat/quadratref24.inside -/
theorem fn38 : E0.P.funcs[38]? = some Try.f38 := Try.func38
theorem body38 : Try.f38.body = some (codeOf Try.f38) := by kernel_rfl
theorem ok38 : okFunc Try.f38 = true := by kernel_rfl
theorem kr38 : E0.kr 38 = [(4, false)] := by kernel_rfl
theorem kp38_5 : E0.kp 38 5 = ([(0, false), (5, false), (7, false)], []) := by kernel_rfl
theorem ow38_5 : E0.own 38 5 = [] := by kernel_rfl
theorem lp38_5 : ((E0.P.funcs[38]?).bind fun fn => fn.body.bind (findLoop 5)) = some (loopIn Try.f38 5) := by kernel_rfl
/-! slices.Clone[[]int,int] -/
theorem fn32 : E0.P.funcs[32]? = some Try.f32 := Try.func32
theorem body32 : Try.f32.body = some (codeOf Try.f32) := by kernel_rfl
theorem ok32 : okFunc Try.f32 = true := by kernel_rfl
theorem kr32 : E0.kr 32 = [(2, false)] := by kernel_rfl
/-! quadrat/quadratref06.Valid -/
theorem fn34 : E0.P.funcs[34]? = some Try.f34 := Try.func34
theorem body34 : Try.f34.body = some (codeOf Try.f34) := by kernel_rfl
theorem ok34 : okFunc Try.f34 = true := by kernel_rfl
theorem kr34 : E0.kr 34 = [(2, false)] := by kernel_rfl
theorem kp34_10 : E0.kp 34 10 = ([(4, false), (5, false)], []) := by kernel_rfl
theorem ow34_10 : E0.own 34 10 = [] := by kernel_rfl
theorem lp34_10 : ((E0.P.funcs[34]?).bind fun fn => fn.body.bind (findLoop 10)) = some (loopIn Try.f34 10) := by kernel_rfl
theorem kp34_4 : E0.kp 34 4 = ([(1, false), (3, false)], [(1, false)]) := by kernel_rfl
theorem ow34_4 : E0.own 34 4 = [] := by kernel_rfl
theorem lp34_4 : ((E0.P.funcs[34]?).bind fun fn => fn.body.bind (findLoop 4)) = some (loopIn Try.f34 4) := by kernel_rfl
/-! quadrat/quadratref06.places -/
theorem fn35 : E0.P.funcs[35]? = some Try.f35 := Try.func35
theorem body35 : Try.f35.body = some (codeOf Try.f35) := by kernel_rfl
theorem ok35 : okFunc Try.f35 = true := by kernel_rfl
theorem kr35 : E0.kr 35 = [(2, false)] := by kernel_rfl
theorem kp35_12 : E0.kp 35 12 = ([(1, false), (3, false), (4, false), (5, false), (6, false), (7, false)], [(1, false), (3, false), (4, false), (5, false), (6, false)]) := by kernel_rfl
theorem ow35_12 : E0.own 35 12 = [(5, none, 1)] := by kernel_rfl
theorem lp35_12 : ((E0.P.funcs[35]?).bind fun fn => fn.body.bind (findLoop 12)) = some (loopIn Try.f35 12) := by kernel_rfl
theorem kp35_9 : E0.kp 35 9 = ([(1, false), (3, false), (4, false), (5, false), (6, false)], [(1, false), (4, false), (5, false)]) := by kernel_rfl
theorem ow35_9 : E0.own 35 9 = [(5, none, 1)] := by kernel_rfl
theorem lp35_9 : ((E0.P.funcs[35]?).bind fun fn => fn.body.bind (findLoop 9)) = some (loopIn Try.f35 9) := by kernel_rfl
theorem kp35_5 : E0.kp 35 5 = ([(1, false), (3, false), (4, false)], [(3, false)]) := by kernel_rfl
theorem ow35_5 : E0.own 35 5 = [] := by kernel_rfl
theorem lp35_5 : ((E0.P.funcs[35]?).bind fun fn => fn.body.bind (findLoop 5)) = some (loopIn Try.f35 5) := by kernel_rfl
/-! quadrat/section.Size -/
theorem fn29 : E0.P.funcs[29]? = some Try.f29 := Try.func29
theorem body29 : Try.f29.body = some (codeOf Try.f29) := by kernel_rfl
theorem ok29 : okFunc Try.f29 = true := by kernel_rfl
theorem kr29 : E0.kr 29 = [(2, false), (3, false)] := by kernel_rfl
/-! quadrat/quadratref06.Size -/
theorem fn39 : E0.P.funcs[39]? = some Try.f39 := Try.func39
theorem body39 : Try.f39.body = some (codeOf Try.f39) := by kernel_rfl
theorem ok39 : okFunc Try.f39 = true := by kernel_rfl
theorem kr39 : E0.kr 39 = [(2, false), (3, false)] := by kernel_rfl
/-! quadrat/quadratref06.Copy -/
theorem fn40 : E0.P.funcs[40]? = some Try.f40 := Try.func40
theorem body40 : Try.f40.body = some (codeOf Try.f40) := by kernel_rfl
theorem ok40 : okFunc Try.f40 = true := by kernel_rfl
theorem kr40 : E0.kr 40 = [(2, false)] := by kernel_rfl
/-! quadrat/argue.valid -/
theorem fn28 : E0.P.funcs[28]? = some Try.f28 := Try.func28
theorem body28 : Try.f28.body = some (codeOf Try.f28) := by kernel_rfl
theorem ok28 : okFunc Try.f28 = true := by kernel_rfl
theorem kr28 : E0.kr 28 = [(2, false)] := by kernel_rfl
theorem kp28_4 : E0.kp 28 4 = ([(8, false), (9, false), (10, false)], []) := by kernel_rfl
theorem ow28_4 : E0.own 28 4 = [] := by kernel_rfl
theorem lp28_4 : ((E0.P.funcs[28]?).bind fun fn => fn.body.bind (findLoop 4)) = some (loopIn Try.f28 4) := by kernel_rfl
/-! quadrat/argue.packed -/
theorem fn30 : E0.P.funcs[30]? = some Try.f30 := Try.func30
theorem body30 : Try.f30.body = some (codeOf Try.f30) := by kernel_rfl
theorem ok30 : okFunc Try.f30 = true := by kernel_rfl
theorem kr30 : E0.kr 30 = [(2, false)] := by kernel_rfl
/-! quadrat/argue.all -/
theorem fn31 : E0.P.funcs[31]? = some Try.f31 := Try.func31
theorem body31 : Try.f31.body = some (codeOf Try.f31) := by kernel_rfl
theorem ok31 : okFunc Try.f31 = true := by kernel_rfl
theorem kr31 : E0.kr 31 = [(4, false)] := by kernel_rfl
theorem kp31_5 : E0.kp 31 5 = ([(0, false), (15, false), (16, false), (17, false)], []) := by kernel_rfl
theorem ow31_5 : E0.own 31 5 = [] := by kernel_rfl
theorem lp31_5 : ((E0.P.funcs[31]?).bind fun fn => fn.body.bind (findLoop 5)) = some (loopIn Try.f31 5) := by kernel_rfl
/-! quadrat/section.Whole -/
theorem fn33 : E0.P.funcs[33]? = some Try.f33 := Try.func33
theorem body33 : Try.f33.body = some (codeOf Try.f33) := by kernel_rfl
theorem ok33 : okFunc Try.f33 = true := by kernel_rfl
theorem kr33 : E0.kr 33 = [(2, false), (3, false)] := by kernel_rfl
theorem kp33_6 : E0.kp 33 6 = ([(2, false), (4, false), (5, false), (15, false), (16, false), (17, false)], [(2, false), (4, false)]) := by kernel_rfl
theorem ow33_6 : E0.own 33 6 = [(4, some 2, 1)] := by kernel_rfl
theorem lp33_6 : ((E0.P.funcs[33]?).bind fun fn => fn.body.bind (findLoop 6)) = some (loopIn Try.f33 6) := by kernel_rfl
/-! quadrat/quadratref24.isPasses -/
theorem fn41 : E0.P.funcs[41]? = some Try.f41 := Try.func41
theorem body41 : Try.f41.body = some (codeOf Try.f41) := by kernel_rfl
theorem ok41 : okFunc Try.f41 = true := by kernel_rfl
theorem kr41 : E0.kr 41 = [(2, false)] := by kernel_rfl
theorem kp41_2 : E0.kp 41 2 = ([(0, false), (3, false)], [(0, false)]) := by kernel_rfl
theorem ow41_2 : E0.own 41 2 = [] := by kernel_rfl
theorem lp41_2 : ((E0.P.funcs[41]?).bind fun fn => fn.body.bind (findLoop 2)) = some (loopIn Try.f41 2) := by kernel_rfl
/-! quadrat/quadratref24.room -/
theorem fn42 : E0.P.funcs[42]? = some Try.f42 := Try.func42
theorem body42 : Try.f42.body = some (codeOf Try.f42) := by kernel_rfl
theorem ok42 : okFunc Try.f42 = true := by kernel_rfl
theorem kr42 : E0.kr 42 = [(2, false)] := by kernel_rfl
theorem kp42_3 : E0.kp 42 3 = ([(0, false), (3, false), (4, false)], [(3, false)]) := by kernel_rfl
theorem ow42_3 : E0.own 42 3 = [] := by kernel_rfl
theorem lp42_3 : ((E0.P.funcs[42]?).bind fun fn => fn.body.bind (findLoop 3)) = some (loopIn Try.f42 3) := by kernel_rfl
/-! quadrat/quadratref24.packed -/
theorem fn43 : E0.P.funcs[43]? = some Try.f43 := Try.func43
theorem body43 : Try.f43.body = some (codeOf Try.f43) := by kernel_rfl
theorem ok43 : okFunc Try.f43 = true := by kernel_rfl
theorem kr43 : E0.kr 43 = [(2, false)] := by kernel_rfl
/-! quadrat/quadratref06.Whole -/
theorem fn44 : E0.P.funcs[44]? = some Try.f44 := Try.func44
theorem body44 : Try.f44.body = some (codeOf Try.f44) := by kernel_rfl
theorem ok44 : okFunc Try.f44 = true := by kernel_rfl
theorem kr44 : E0.kr 44 = [(2, false), (3, false)] := by kernel_rfl
theorem kp44_6 : E0.kp 44 6 = ([(0, false), (2, false), (4, false), (5, false), (6, false)], [(2, false), (4, false)]) := by kernel_rfl
theorem ow44_6 : E0.own 44 6 = [(4, some 2, 1)] := by kernel_rfl
theorem lp44_6 : ((E0.P.funcs[44]?).bind fun fn => fn.body.bind (findLoop 6)) = some (loopIn Try.f44 6) := by kernel_rfl
/-! quadrat/section.Places -/
theorem fn45 : E0.P.funcs[45]? = some Try.f45 := Try.func45
theorem body45 : Try.f45.body = some (codeOf Try.f45) := by kernel_rfl
theorem ok45 : okFunc Try.f45 = true := by kernel_rfl
theorem kr45 : E0.kr 45 = [(2, false), (3, false)] := by kernel_rfl
theorem kp45_14 : E0.kp 45 14 = ([(1, false), (4, false), (5, false), (6, false), (7, true), (8, false), (22, false), (23, false), (24, false), (35, false), (36, false), (37, false)], [(1, false), (4, false), (5, false), (6, false), (7, false), (8, false), (22, false), (23, false), (24, false)]) := by kernel_rfl
theorem ow45_14 : E0.own 45 14 = [(4, none, 1)] := by kernel_rfl
theorem lp45_14 : ((E0.P.funcs[45]?).bind fun fn => fn.body.bind (findLoop 14)) = some (loopIn Try.f45 14) := by kernel_rfl
theorem kp45_11 : E0.kp 45 11 = ([(1, false), (4, false), (5, false), (6, false), (7, true), (8, false), (22, false), (23, false), (24, false)], [(1, false), (4, false), (22, false), (23, false), (24, false)]) := by kernel_rfl
theorem ow45_11 : E0.own 45 11 = [(4, none, 1)] := by kernel_rfl
theorem lp45_11 : ((E0.P.funcs[45]?).bind fun fn => fn.body.bind (findLoop 11)) = some (loopIn Try.f45 11) := by kernel_rfl
theorem kp45_7 : E0.kp 45 7 = ([(1, false), (4, false), (22, false), (23, false), (24, false)], [(4, false)]) := by kernel_rfl
theorem ow45_7 : E0.own 45 7 = [(4, none, 1)] := by kernel_rfl
theorem lp45_7 : ((E0.P.funcs[45]?).bind fun fn => fn.body.bind (findLoop 7)) = some (loopIn Try.f45 7) := by kernel_rfl
/-! quadrat/section.Twice -/
theorem fn46 : E0.P.funcs[46]? = some Try.f46 := Try.func46
theorem body46 : Try.f46.body = some (codeOf Try.f46) := by kernel_rfl
theorem ok46 : okFunc Try.f46 = true := by kernel_rfl
theorem kr46 : E0.kr 46 = [(2, false)] := by kernel_rfl
/-! quadrat/section.Share -/
theorem fn47 : E0.P.funcs[47]? = some Try.f47 := Try.func47
theorem body47 : Try.f47.body = some (codeOf Try.f47) := by kernel_rfl
theorem ok47 : okFunc Try.f47 = true := by kernel_rfl
theorem kr47 : E0.kr 47 = [(4, false), (5, false)] := by kernel_rfl
theorem kp47_7 : E0.kp 47 7 = ([(8, false), (10, false), (30, false), (31, false), (32, false)], [(8, false), (10, false)]) := by kernel_rfl
theorem ow47_7 : E0.own 47 7 = [] := by kernel_rfl
theorem lp47_7 : ((E0.P.funcs[47]?).bind fun fn => fn.body.bind (findLoop 7)) = some (loopIn Try.f47 7) := by kernel_rfl
/-! quadrat/quadratref06.Share -/
theorem fn48 : E0.P.funcs[48]? = some Try.f48 := Try.func48
theorem body48 : Try.f48.body = some (codeOf Try.f48) := by kernel_rfl
theorem ok48 : okFunc Try.f48 = true := by kernel_rfl
theorem kr48 : E0.kr 48 = [(4, false), (5, false)] := by kernel_rfl
theorem kp48_11 : E0.kp 48 11 = ([(6, false), (7, false), (9, false)], []) := by kernel_rfl
theorem ow48_11 : E0.own 48 11 = [] := by kernel_rfl
theorem lp48_11 : ((E0.P.funcs[48]?).bind fun fn => fn.body.bind (findLoop 11)) = some (loopIn Try.f48 11) := by kernel_rfl
theorem kp48_6 : E0.kp 48 6 = ([(3, false), (6, false), (7, false), (8, false)], [(3, false), (6, false)]) := by kernel_rfl
theorem ow48_6 : E0.own 48 6 = [] := by kernel_rfl
theorem lp48_6 : ((E0.P.funcs[48]?).bind fun fn => fn.body.bind (findLoop 6)) = some (loopIn Try.f48 6) := by kernel_rfl
/-! quadrat/quadratref06.Twice -/
theorem fn49 : E0.P.funcs[49]? = some Try.f49 := Try.func49
theorem body49 : Try.f49.body = some (codeOf Try.f49) := by kernel_rfl
theorem ok49 : okFunc Try.f49 = true := by kernel_rfl
theorem kr49 : E0.kr 49 = [(2, false)] := by kernel_rfl
theorem kp49_3 : E0.kp 49 3 = ([(0, false), (3, false), (4, false)], []) := by kernel_rfl
theorem ow49_3 : E0.own 49 3 = [] := by kernel_rfl
theorem lp49_3 : ((E0.P.funcs[49]?).bind fun fn => fn.body.bind (findLoop 3)) = some (loopIn Try.f49 3) := by kernel_rfl
/-! slices.ContainsFunc[[]int,int] -/
theorem fn56 : E0.P.funcs[56]? = some Try.f56 := Try.func56
theorem body56 : Try.f56.body = some (codeOf Try.f56) := by kernel_rfl
theorem ok56 : okFunc Try.f56 = true := by kernel_rfl
theorem kr56 : E0.kr 56 = [(4, false)] := by kernel_rfl
/-! quadrat/argue.asked$1 -/
theorem fn57 : E0.P.funcs[57]? = some Try.f57 := Try.func57
theorem body57 : Try.f57.body = some (codeOf Try.f57) := by kernel_rfl
theorem ok57 : okFunc Try.f57 = true := by kernel_rfl
theorem kr57 : E0.kr 57 = [(3, false)] := by kernel_rfl
/-! quadrat/quadratref06.size -/
theorem fn54 : E0.P.funcs[54]? = some Try.f54 := Try.func54
theorem body54 : Try.f54.body = some (codeOf Try.f54) := by kernel_rfl
theorem ok54 : okFunc Try.f54 = true := by kernel_rfl
theorem kr54 : E0.kr 54 = [(2, false)] := by kernel_rfl
theorem kp54_5 : E0.kp 54 5 = ([(0, false), (3, false), (4, false)], [(3, false)]) := by kernel_rfl
theorem ow54_5 : E0.own 54 5 = [] := by kernel_rfl
theorem lp54_5 : ((E0.P.funcs[54]?).bind fun fn => fn.body.bind (findLoop 5)) = some (loopIn Try.f54 5) := by kernel_rfl
/-! quadrat/quadratref06.near -/
theorem fn55 : E0.P.funcs[55]? = some Try.f55 := Try.func55
theorem body55 : Try.f55.body = some (codeOf Try.f55) := by kernel_rfl
theorem ok55 : okFunc Try.f55 = true := by kernel_rfl
theorem kr55 : E0.kr 55 = [(2, false)] := by kernel_rfl
/-! quadrat/section.Valid -/
theorem fn50 : E0.P.funcs[50]? = some Try.f50 := Try.func50
theorem body50 : Try.f50.body = some (codeOf Try.f50) := by kernel_rfl
theorem ok50 : okFunc Try.f50 = true := by kernel_rfl
theorem kr50 : E0.kr 50 = [(2, false)] := by kernel_rfl
/-! quadrat/section.size -/
theorem fn52 : E0.P.funcs[52]? = some Try.f52 := Try.func52
theorem body52 : Try.f52.body = some (codeOf Try.f52) := by kernel_rfl
theorem ok52 : okFunc Try.f52 = true := by kernel_rfl
theorem kr52 : E0.kr 52 = [(2, false)] := by kernel_rfl
theorem kp52_5 : E0.kp 52 5 = ([(3, false), (13, false), (14, false), (15, false)], [(3, false)]) := by kernel_rfl
theorem ow52_5 : E0.own 52 5 = [] := by kernel_rfl
theorem lp52_5 : ((E0.P.funcs[52]?).bind fun fn => fn.body.bind (findLoop 5)) = some (loopIn Try.f52 5) := by kernel_rfl
/-! slices.Contains[[]string,string] -/
theorem fn51 : E0.P.funcs[51]? = some Try.f51 := Try.func51
theorem body51 : Try.f51.body = some (codeOf Try.f51) := by kernel_rfl
theorem ok51 : okFunc Try.f51 = true := by kernel_rfl
theorem kr51 : E0.kr 51 = [(4, false)] := by kernel_rfl
/-! quadrat/section.Contiguous -/
theorem fn53 : E0.P.funcs[53]? = some Try.f53 := Try.func53
theorem body53 : Try.f53.body = some (codeOf Try.f53) := by kernel_rfl
theorem ok53 : okFunc Try.f53 = true := by kernel_rfl
theorem kr53 : E0.kr 53 = [(2, false), (3, false)] := by kernel_rfl
theorem kp53_5 : E0.kp 53 5 = ([(4, false), (6, false)], []) := by kernel_rfl
theorem ow53_5 : E0.own 53 5 = [] := by kernel_rfl
theorem lp53_5 : ((E0.P.funcs[53]?).bind fun fn => fn.body.bind (findLoop 5)) = some (loopIn Try.f53 5) := by kernel_rfl
/-! quadrat/quadratref06.Contiguous -/
theorem fn58 : E0.P.funcs[58]? = some Try.f58 := Try.func58
theorem body58 : Try.f58.body = some (codeOf Try.f58) := by kernel_rfl
theorem ok58 : okFunc Try.f58 = true := by kernel_rfl
theorem kr58 : E0.kr 58 = [(2, false), (3, false)] := by kernel_rfl
theorem kp58_5 : E0.kp 58 5 = ([(4, false), (5, false)], []) := by kernel_rfl
theorem ow58_5 : E0.own 58 5 = [] := by kernel_rfl
theorem lp58_5 : ((E0.P.funcs[58]?).bind fun fn => fn.body.bind (findLoop 5)) = some (loopIn Try.f58 5) := by kernel_rfl
/-! quadrat/section.Share$1 -/
theorem fn62 : E0.P.funcs[62]? = some Try.f62 := Try.func62
theorem body62 : Try.f62.body = some (codeOf Try.f62) := by kernel_rfl
theorem ok62 : okFunc Try.f62 = true := by kernel_rfl
theorem kr62 : E0.kr 62 = [(3, false)] := by kernel_rfl
/-! slices.IndexFunc[[]int,int] -/
theorem fn68 : E0.P.funcs[68]? = some Try.f68 := Try.func68
theorem body68 : Try.f68.body = some (codeOf Try.f68) := by kernel_rfl
theorem ok68 : okFunc Try.f68 = true := by kernel_rfl
theorem kr68 : E0.kr 68 = [(4, false)] := by kernel_rfl
theorem kp68_2 : E0.kp 68 2 = ([(0, false), (1, false), (7, false), (8, false)], []) := by kernel_rfl
theorem ow68_2 : E0.own 68 2 = [] := by kernel_rfl
theorem lp68_2 : ((E0.P.funcs[68]?).bind fun fn => fn.body.bind (findLoop 2)) = some (loopIn Try.f68 2) := by kernel_rfl
/-! quadrat/section.Valid$1 -/
theorem fn63 : E0.P.funcs[63]? = some Try.f63 := Try.func63
theorem body63 : Try.f63.body = some (codeOf Try.f63) := by kernel_rfl
theorem ok63 : okFunc Try.f63 = true := by kernel_rfl
theorem kr63 : E0.kr 63 = [(2, false)] := by kernel_rfl
/-! quadrat/section.ends -/
theorem fn65 : E0.P.funcs[65]? = some Try.f65 := Try.func65
theorem body65 : Try.f65.body = some (codeOf Try.f65) := by kernel_rfl
theorem ok65 : okFunc Try.f65 = true := by kernel_rfl
theorem kr65 : E0.kr 65 = [(2, false), (3, false)] := by kernel_rfl
theorem kp65_3 : E0.kp 65 3 = ([(1, false), (2, false), (3, false), (12, false), (13, false), (14, false)], [(2, false), (3, false)]) := by kernel_rfl
theorem ow65_3 : E0.own 65 3 = [] := by kernel_rfl
theorem lp65_3 : ((E0.P.funcs[65]?).bind fun fn => fn.body.bind (findLoop 3)) = some (loopIn Try.f65 3) := by kernel_rfl
/-! quadrat/section.size$1 -/
theorem fn67 : E0.P.funcs[67]? = some Try.f67 := Try.func67
theorem body67 : Try.f67.body = some (codeOf Try.f67) := by kernel_rfl
theorem ok67 : okFunc Try.f67 = true := by kernel_rfl
theorem kr67 : E0.kr 67 = [(2, false)] := by kernel_rfl
/-! slices.Index[[]string,string] -/
theorem fn66 : E0.P.funcs[66]? = some Try.f66 := Try.func66
theorem body66 : Try.f66.body = some (codeOf Try.f66) := by kernel_rfl
theorem ok66 : okFunc Try.f66 = true := by kernel_rfl
theorem kr66 : E0.kr 66 = [(4, false)] := by kernel_rfl
theorem kp66_2 : E0.kp 66 2 = ([(0, false), (1, false), (7, false), (8, false)], []) := by kernel_rfl
theorem ow66_2 : E0.own 66 2 = [] := by kernel_rfl
theorem lp66_2 : ((E0.P.funcs[66]?).bind fun fn => fn.body.bind (findLoop 2)) = some (loopIn Try.f66 2) := by kernel_rfl
/-! quadrat/section.isNumber -/
theorem fn64 : E0.P.funcs[64]? = some Try.f64 := Try.func64
theorem body64 : Try.f64.body = some (codeOf Try.f64) := by kernel_rfl
theorem ok64 : okFunc Try.f64 = true := by kernel_rfl
theorem kr64 : E0.kr 64 = [(2, false)] := by kernel_rfl
end Go.Proofs.Ytochkebkfoophaa.Tev
