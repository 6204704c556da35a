/- Part 7: TevFn, QAr, TevNil. -/
import Derived.Test.YtnbijiopcgfmfaaGreatProg
import Derived.Test.YtnbijiopcgfmfaaGreatP06
import Derived.KernelRfl
import GoSem.Claim
import Derived.IntWalk
import Derived.Lib.SliceRun
/- What the evaluator asks of this program: types, functions, loops (printed by wip/tools/tx.py; every equation checked by the kernel). -/
namespace Go.Proofs.YtnbijiopcgfmfaaGreat.Tev
open Go Go.RowKit Go.Proofs
set_option maxRecDepth 100000
set_option linter.unusedVariables false
set_option linter.unusedSimpArgs false
set_option linter.unusedSectionVars false
structure LpRow where
  f : Nat
  id : Nat
  k1 : Keep
  k2 : Keep
  ow : List (Nat × Option Nat × Nat)
def rows : List LpRow := [
  ⟨3, 23, [(3, false), (19, false), (22, false), (23, false)], [], []⟩,
  ⟨3, 10, [(2, false), (3, false), (4, false), (7, false), (8, false), (10, false), (13, false), (15, false)], [(2, false), (3, false), (7, false), (8, false)], []⟩,
  ⟨6, 10, [(2, false), (4, false), (5, false), (8, false), (9, false), (10, false), (11, false), (12, false)], [(4, false), (5, false), (9, false), (11, false)], [(11, some 2, 1)]⟩,
  ⟨10, 12, [(2, false), (4, false), (10, false), (56, false), (57, false), (58, false)], [(2, false), (4, false), (10, false)], [(10, some 1, 1), (10, some 2, 1)]⟩,
  ⟨10, 4, [(1, false), (2, false), (4, false), (31, false), (32, false), (33, false)], [(1, false), (2, false), (4, false)], []⟩,
  ⟨11, 14, [(1, false), (4, false), (5, false), (6, false), (7, true), (8, false), (22, false), (23, false), (24, false), (35, false), (36, false), (37, false)], [(1, false), (4, false), (5, false), (6, false), (7, false), (8, false), (22, false), (23, false), (24, false)], [(4, none, 1)]⟩,
  ⟨11, 11, [(1, false), (4, false), (5, false), (6, false), (7, true), (8, false), (22, false), (23, false), (24, false)], [(1, false), (4, false), (22, false), (23, false), (24, false)], [(4, none, 1)]⟩,
  ⟨11, 7, [(1, false), (4, false), (22, false), (23, false), (24, false)], [(4, false)], [(4, none, 1)]⟩,
  ⟨12, 4, [(0, false), (1, false), (5, false)], [], []⟩,
  ⟨18, 6, [(2, false), (4, false), (5, false), (15, false), (16, false), (17, false)], [(2, false), (4, false)], [(4, some 2, 1)]⟩,
  ⟨20, 4, [(4, false), (5, false), (8, false), (9, false), (10, false)], [(4, false)], []⟩,
  ⟨21, 3, [(2, false), (6, false), (8, false), (16, false), (17, false)], [(6, false), (8, false)], [(8, some 2, 1)]⟩,
  ⟨28, 5, [(3, false), (13, false), (14, false), (15, false)], [(3, false)], []⟩,
  ⟨30, 2, [(0, false), (1, false), (7, false), (8, false)], [], []⟩,
  ⟨37, 21, [(0, false), (3, false), (4, false), (8, false), (89, false), (90, false), (91, false)], [(0, false), (3, false), (4, false), (8, false)], []⟩,
  ⟨38, 9, [(0, false), (3, false), (4, false), (6, false), (29, false), (30, false)], [(4, false), (6, false)], []⟩,
  ⟨39, 13, [(4, false), (6, false), (7, false), (8, false), (45, false), (46, false), (52, false), (53, false)], [(4, false), (6, false), (7, false), (45, false), (46, false)], [(7, some 2, 1)]⟩,
  ⟨39, 10, [(4, false), (6, false), (7, false), (45, false), (46, false)], [(4, false), (7, false)], [(7, some 2, 1)]⟩,
  ⟨44, 4, [(0, false), (1, false), (12, false), (13, false)], [], []⟩,
  ⟨51, 3, [(1, false), (2, false), (3, false), (12, false), (13, false), (14, false)], [(2, false), (3, false)], []⟩,
  ⟨56, 2, [(0, false), (1, false), (7, false), (8, false)], [], []⟩,
  ⟨58, 3, [(0, false), (2, false), (3, false), (5, false), (7, false), (10, false), (11, false), (12, false)], [(2, false), (3, false), (5, false), (7, false)], [(7, none, 2)]⟩,
  ⟨61, 5, [(3, false), (4, false), (6, false), (7, false), (21, false), (22, false)], [(4, false), (7, false)], []⟩,
  ⟨62, 10, [(3, false), (4, false), (5, false), (6, false), (32, false), (33, false)], [(4, false), (6, false)], []⟩,
  ⟨66, 8, [(2, false), (3, false), (4, false), (6, false), (7, false), (35, false), (36, false)], [(4, false), (7, false)], [(7, some 2, 1)]⟩,
  ⟨68, 9, [(3, false), (4, false), (6, false), (32, false), (33, false), (34, false)], [(4, false), (6, false)], [(6, some 2, 1)]⟩,
  ⟨69, 2, [(0, false), (1, false), (7, false), (8, false)], [], []⟩,
  ⟨84, 5, [(0, false), (3, false), (4, false)], [(3, false)], []⟩,
  ⟨85, 4, [(1, false), (3, false), (4, false), (5, false), (7, false), (9, false), (10, false), (11, false), (23, false), (24, false)], [(7, false), (11, false)], []⟩,
  ⟨86, 8, [(7, false), (8, false)], [(7, false)], []⟩,
  ⟨98, 24, [(2, false), (8, false), (9, false), (10, false), (14, false), (15, false), (16, false), (17, false), (18, false)], [(2, false), (8, false), (14, false), (15, false), (17, false), (18, false)], []⟩,
  ⟨98, 17, [(2, false), (8, false), (9, false), (10, false), (11, false), (13, false), (14, false), (15, false), (16, false)], [(2, false), (8, false), (9, false), (10, false), (11, false), (13, false), (14, false), (15, false)], []⟩,
  ⟨106, 3, [(1, false), (6, false), (7, false), (8, false), (9, false)], [(1, false), (7, false), (8, false), (9, false)], []⟩,
  ⟨103, 2, [(0, false), (1, false), (4, false), (6, false)], [(0, false), (1, false), (4, false)], []⟩]
def rowOf : List LpRow → Nat → Nat → LpRow
  | [], _, _ => ⟨0, 0, [], [], []⟩
  | r :: l, f, id => bif r.f == f && r.id == id then r else rowOf l f id
def rets : List (Nat × Keep) := [(3, [(6, false)]), (4, [(2, false)]), (5, [(0, false)]), (6, [(4, false), (5, false), (6, false)]), (7, [(6, false), (7, false)]), (8, [(6, false), (7, false)]), (9, [(4, false)]), (10, [(4, false), (5, false)]), (11, [(2, false), (3, false)]), (12, [(4, false)]), (13, [(2, false)]), (14, [(4, false)]), (15, [(3, false)]), (17, [(4, false), (5, false)]), (18, [(2, false), (3, false)]), (19, [(6, false)]), (20, [(2, false), (3, false)]), (21, [(6, false), (7, false)]), (22, [(5, false), (6, false)]), (23, [(6, false), (7, false)]), (25, [(2, false)]), (26, [(2, false)]), (27, [(2, false), (3, false)]), (28, [(2, false)]), (29, [(2, false), (3, false)]), (30, [(4, false)]), (16, [(4, false)]), (33, [(2, false), (3, false)]), (34, [(4, false)]), (35, [(2, false)]), (36, [(4, false), (5, false)]), (37, [(4, false), (5, false)]), (38, [(4, false), (5, false)]), (39, [(4, false), (5, false)]), (40, [(2, false)]), (41, [(2, false)]), (42, [(4, false)]), (43, [(2, false)]), (44, [(4, false)]), (24, [(4, false)]), (45, [(2, false)]), (46, [(6, false), (7, false)]), (47, [(4, false)]), (48, [(4, false)]), (49, [(2, false)]), (51, [(2, false), (3, false)]), (50, [(2, false)]), (52, [(2, false)]), (31, [(4, false)]), (32, [(2, false)]), (55, [(0, false)]), (56, [(4, false)]), (57, [(4, false)]), (58, [(5, false), (6, false)]), (60, [(2, false)]), (61, [(4, false), (5, false)]), (62, [(4, false)]), (63, [(6, false)]), (64, [(4, false), (5, false)]), (65, [(4, false), (5, false)]), (66, [(4, false), (5, false)]), (67, [(4, false), (5, false)]), (68, [(4, false), (5, false)]), (69, [(4, false)]), (70, [(4, false), (5, false)]), (71, [(2, false), (3, false)]), (72, [(8, false), (9, false), (10, false)]), (73, [(8, false), (9, false), (10, false)]), (74, [(8, false), (9, false), (10, false)]), (75, [(8, false), (9, false), (10, false)]), (76, [(6, false), (7, false)]), (53, [(2, false), (3, false)]), (54, [(4, false), (5, false)]), (59, [(6, false), (7, false)]), (82, [(4, false)]), (83, [(4, false)]), (84, [(2, false)]), (85, [(7, false), (8, false)]), (86, [(4, false)]), (87, [(6, false), (7, false), (8, false)]), (88, [(6, false), (7, false), (8, false)]), (89, [(8, false), (9, false), (10, false)]), (90, [(8, false), (9, false), (10, false), (11, false)]), (91, [(8, false), (9, false)]), (92, [(2, false)]), (93, [(4, false)]), (94, [(4, false)]), (95, [(4, false), (5, false)]), (96, [(8, false), (9, false)]), (97, [(2, false)]), (98, [(6, false), (7, false)]), (99, [(4, false)]), (77, [(2, false)]), (78, [(2, false)]), (79, [(2, false)]), (80, [(4, false), (5, false)]), (81, [(6, false), (7, false), (8, false)]), (104, [(4, false), (5, false)]), (105, [(4, false), (5, false)]), (106, [(4, false), (5, false)]), (107, [(8, false)]), (108, [(4, false)]), (109, [(8, false), (9, false)]), (110, [(8, false)]), (111, [(2, false)]), (112, [(4, false)]), (113, [(2, false)]), (100, [(6, false), (7, false)]), (101, [(2, false)]), (102, [(4, false), (5, false)]), (103, [(4, false), (5, false)]), (114, [(2, false)]), (115, [(4, false), (5, false)]), (118, [(2, false)])]
def retOf : List (Nat × Keep) → Nat → Keep
  | [], _ => []
  | r :: l, f => bif r.1 == f then r.2 else retOf l f
noncomputable def E0 : Env := ⟨Tryz.prog, fun f id => let r := rowOf rows f id; (r.k1, r.k2), fun f id => (rowOf rows f id).ow, fun f => retOf rets f, fun f id => if f = 65 ∧ id = 19 then [12] else if f = 7 ∧ id = 9 then [9] else if f = 6 ∧ id = 8 then [9] else if f = 3 ∧ id = 7 then [7, 10] else [], fun f id => if f = 90 ∧ id = 6 then [(8, 9), (8, 10), (9, 10)] else if f = 90 ∧ id = 3 then [(8, 9), (8, 10), (9, 10)] else if f = 54 ∧ id = 7 then [(64, 50), (64, 60), (65, 60)] else if f = 65 ∧ id = 9 then [(9, 63), (9, 65)] else if f = 6 ∧ id = 15 then [(4, 9)] else if f = 6 ∧ id = 13 then [(4, 9)] else if f = 6 ∧ id = 6 then [(4, 9)] else if f = 6 ∧ id = 3 then [(4, 7)] else []⟩
theorem E0nd (f id : Nat) : E0.nd f id = if f = 90 ∧ id = 6 then [(8, 9), (8, 10), (9, 10)] else if f = 90 ∧ id = 3 then [(8, 9), (8, 10), (9, 10)] else if f = 54 ∧ id = 7 then [(64, 50), (64, 60), (65, 60)] else if f = 65 ∧ id = 9 then [(9, 63), (9, 65)] else if f = 6 ∧ id = 15 then [(4, 9)] else if f = 6 ∧ id = 13 then [(4, 9)] else if f = 6 ∧ id = 6 then [(4, 9)] else if f = 6 ∧ id = 3 then [(4, 7)] else [] := rfl
theorem E0fz (f id : Nat) : E0.fz f id = if f = 65 ∧ id = 19 then [12] else if f = 7 ∧ id = 9 then [9] else if f = 6 ∧ id = 8 then [9] else if f = 3 ∧ id = 7 then [7, 10] else [] := rfl
theorem E0P : E0.P = Tryz.prog := rfl
def codeOf (fn : Func) : Code := fn.body.getD .skip
def loopIn (fn : Func) (id : Nat) : Code := (fn.body.bind (findLoop id)).getD .skip
theorem ty3 : szOf Tryz.prog 3 = some 1 ∧ bytesOf Tryz.prog 3 = some 8 ∧ zeroOf Tryz.prog 3 = some [.c (.v (.int .i64 0))] ∧ aggOf Tryz.prog 3 = some false ∧ zero1 Tryz.prog 3 = some (.c (.v (.int .i64 0))) ∧ cellTys Tryz.prog 8 3 = some [none] := ⟨by kernel_rfl, by kernel_rfl, by kernel_rfl, by kernel_rfl, by kernel_rfl, by kernel_rfl⟩
theorem ty4 : szOf Tryz.prog 4 = some 1 ∧ bytesOf Tryz.prog 4 = some 1 ∧ zeroOf Tryz.prog 4 = some [B false] ∧ aggOf Tryz.prog 4 = some false ∧ zero1 Tryz.prog 4 = some (B false) ∧ Tryz.prog.underlying 4 = some .bool ∧ cellTys Tryz.prog 8 4 = some [none] := ⟨by kernel_rfl, by kernel_rfl, by kernel_rfl, by kernel_rfl, by kernel_rfl, by kernel_rfl, by kernel_rfl⟩
theorem ty9 : szOf Tryz.prog 9 = some 1 ∧ bytesOf Tryz.prog 9 = some 16 ∧ zeroOf Tryz.prog 9 = some [.c (.v (.string ⟨#[]⟩))] ∧ aggOf Tryz.prog 9 = some false ∧ zero1 Tryz.prog 9 = some (.c (.v (.string ⟨#[]⟩))) ∧ Tryz.prog.underlying 9 = some .string ∧ cellTys Tryz.prog 8 9 = some [none] := ⟨by kernel_rfl, by kernel_rfl, by kernel_rfl, by kernel_rfl, by kernel_rfl, by kernel_rfl, by kernel_rfl⟩
theorem ty22 : szOf Tryz.prog 22 = some 1 ∧ bytesOf Tryz.prog 22 = some 24 ∧ zeroOf Tryz.prog 22 = some [.c (.s (some 0) 0 [])] ∧ aggOf Tryz.prog 22 = some false ∧ zero1 Tryz.prog 22 = some (.c (.s (some 0) 0 [])) ∧ elemOf Tryz.prog 22 = some 3 ∧ Tryz.prog.underlying 22 = some (.slice 3) ∧ cellTys Tryz.prog 8 22 = some [some 1] := ⟨by kernel_rfl, by kernel_rfl, by kernel_rfl, by kernel_rfl, by kernel_rfl, by kernel_rfl, by kernel_rfl, by kernel_rfl⟩
theorem ty24 : szOf Tryz.prog 24 = some 3 ∧ bytesOf Tryz.prog 24 = some 56 ∧ zeroOf Tryz.prog 24 = some [.c (.v (.int .i64 0)), .c (.s (some 0) 0 []), .c (.s (some 0) 0 [])] ∧ aggOf Tryz.prog 24 = some true ∧ fieldOf Tryz.prog 24 0 = some (0, 3) ∧ fieldOf Tryz.prog 24 1 = some (1, 22) ∧ fieldOf Tryz.prog 24 2 = some (2, 22) ∧ placesOf Tryz.prog 24 = some (.st [(0, 1), (1, 1), (2, 1)]) ∧ cellTys Tryz.prog 8 24 = some [none, some 1, some 1] := ⟨by kernel_rfl, by kernel_rfl, by kernel_rfl, by kernel_rfl, by kernel_rfl, by kernel_rfl, by kernel_rfl, by kernel_rfl, by kernel_rfl⟩
theorem ty25 : szOf Tryz.prog 25 = some 1 ∧ bytesOf Tryz.prog 25 = some 24 ∧ zeroOf Tryz.prog 25 = some [.c (.s (some 0) 0 [])] ∧ aggOf Tryz.prog 25 = some false ∧ zero1 Tryz.prog 25 = some (.c (.s (some 0) 0 [])) ∧ elemOf Tryz.prog 25 = some 65 ∧ Tryz.prog.underlying 25 = some (.slice 65) ∧ cellTys Tryz.prog 8 25 = some [some 5] := ⟨by kernel_rfl, by kernel_rfl, by kernel_rfl, by kernel_rfl, by kernel_rfl, by kernel_rfl, by kernel_rfl, by kernel_rfl⟩
theorem ty27 : szOf Tryz.prog 27 = some 3 ∧ bytesOf Tryz.prog 27 = some 64 ∧ zeroOf Tryz.prog 27 = some [.c (.s (some 0) 0 []), .c (.s (some 0) 0 []), .c (.v (.string ⟨#[]⟩))] ∧ aggOf Tryz.prog 27 = some true ∧ fieldOf Tryz.prog 27 0 = some (0, 25) ∧ fieldOf Tryz.prog 27 1 = some (1, 25) ∧ fieldOf Tryz.prog 27 2 = some (2, 9) ∧ placesOf Tryz.prog 27 = some (.st [(0, 1), (1, 1), (2, 1)]) ∧ cellTys Tryz.prog 8 27 = some [some 5, some 5, none] := ⟨by kernel_rfl, by kernel_rfl, by kernel_rfl, by kernel_rfl, by kernel_rfl, by kernel_rfl, by kernel_rfl, by kernel_rfl, by kernel_rfl⟩
theorem ty31 : szOf Tryz.prog 31 = some 3 ∧ bytesOf Tryz.prog 31 = some 56 ∧ zeroOf Tryz.prog 31 = some [.c (.v (.int .i64 0)), .c (.s (some 0) 0 []), .c (.s (some 0) 0 [])] ∧ aggOf Tryz.prog 31 = some true ∧ fieldOf Tryz.prog 31 0 = some (0, 3) ∧ fieldOf Tryz.prog 31 1 = some (1, 22) ∧ fieldOf Tryz.prog 31 2 = some (2, 22) ∧ placesOf Tryz.prog 31 = some (.st [(0, 1), (1, 1), (2, 1)]) ∧ cellTys Tryz.prog 8 31 = some [none, some 1, some 1] := ⟨by kernel_rfl, by kernel_rfl, by kernel_rfl, by kernel_rfl, by kernel_rfl, by kernel_rfl, by kernel_rfl, by kernel_rfl, by kernel_rfl⟩
theorem ty34 : szOf Tryz.prog 34 = some 1 ∧ bytesOf Tryz.prog 34 = some 8 ∧ zeroOf Tryz.prog 34 = some [.c (.v (.int .i64 0))] ∧ aggOf Tryz.prog 34 = some false ∧ zero1 Tryz.prog 34 = some (.c (.v (.int .i64 0))) ∧ cellTys Tryz.prog 8 34 = some [none] := ⟨by kernel_rfl, by kernel_rfl, by kernel_rfl, by kernel_rfl, by kernel_rfl, by kernel_rfl⟩
theorem ty38 : szOf Tryz.prog 38 = some 2 ∧ bytesOf Tryz.prog 38 = some 16 ∧ zeroOf Tryz.prog 38 = some [.c (.v (.int .i64 0)), .c (.v (.int .i64 0))] ∧ aggOf Tryz.prog 38 = some true ∧ fieldOf Tryz.prog 38 0 = some (0, 3) ∧ fieldOf Tryz.prog 38 1 = some (1, 3) ∧ placesOf Tryz.prog 38 = some (.st [(0, 1), (1, 1)]) ∧ cellTys Tryz.prog 8 38 = some [none, none] := ⟨by kernel_rfl, by kernel_rfl, by kernel_rfl, by kernel_rfl, by kernel_rfl, by kernel_rfl, by kernel_rfl, by kernel_rfl⟩
theorem ty53 : szOf Tryz.prog 53 = some 1 ∧ bytesOf Tryz.prog 53 = some 24 ∧ zeroOf Tryz.prog 53 = some [.c (.s (some 0) 0 [])] ∧ aggOf Tryz.prog 53 = some false ∧ zero1 Tryz.prog 53 = some (.c (.s (some 0) 0 [])) ∧ elemOf Tryz.prog 53 = some 24 ∧ Tryz.prog.underlying 53 = some (.slice 24) ∧ cellTys Tryz.prog 8 53 = some [some 3] := ⟨by kernel_rfl, by kernel_rfl, by kernel_rfl, by kernel_rfl, by kernel_rfl, by kernel_rfl, by kernel_rfl, by kernel_rfl⟩
theorem ty63 : szOf Tryz.prog 63 = some 3 ∧ bytesOf Tryz.prog 63 = some 24 ∧ zeroOf Tryz.prog 63 = some [.c (.v (.int .i64 0)), .c (.v (.int .i64 0)), .c (.v (.int .i64 0))] ∧ aggOf Tryz.prog 63 = some true ∧ fieldOf Tryz.prog 63 0 = some (0, 3) ∧ fieldOf Tryz.prog 63 1 = some (1, 3) ∧ fieldOf Tryz.prog 63 2 = some (2, 3) ∧ placesOf Tryz.prog 63 = some (.st [(0, 1), (1, 1), (2, 1)]) ∧ cellTys Tryz.prog 8 63 = some [none, none, none] := ⟨by kernel_rfl, by kernel_rfl, by kernel_rfl, by kernel_rfl, by kernel_rfl, by kernel_rfl, by kernel_rfl, by kernel_rfl, by kernel_rfl⟩
theorem ty65 : szOf Tryz.prog 65 = some 5 ∧ bytesOf Tryz.prog 65 = some 40 ∧ zeroOf Tryz.prog 65 = some [B false, .c (.v (.int .i64 0)), .c (.v (.int .i64 0)), .c (.v (.int .i64 0)), .c (.v (.int .i64 0))] ∧ aggOf Tryz.prog 65 = some true ∧ fieldOf Tryz.prog 65 0 = some (0, 4) ∧ fieldOf Tryz.prog 65 1 = some (1, 3) ∧ fieldOf Tryz.prog 65 2 = some (2, 63) ∧ placesOf Tryz.prog 65 = some (.st [(0, 1), (1, 1), (2, 3)]) ∧ cellTys Tryz.prog 8 65 = some [none, none, none, none, none] := ⟨by kernel_rfl, by kernel_rfl, by kernel_rfl, by kernel_rfl, by kernel_rfl, by kernel_rfl, by kernel_rfl, by kernel_rfl, by kernel_rfl⟩
theorem ty77 : szOf Tryz.prog 77 = some 1 ∧ bytesOf Tryz.prog 77 = some 24 ∧ zeroOf Tryz.prog 77 = some [.c (.s (some 0) 0 [])] ∧ aggOf Tryz.prog 77 = some false ∧ zero1 Tryz.prog 77 = some (.c (.s (some 0) 0 [])) ∧ elemOf Tryz.prog 77 = some 9 ∧ Tryz.prog.underlying 77 = some (.slice 9) ∧ cellTys Tryz.prog 8 77 = some [some 1] := ⟨by kernel_rfl, by kernel_rfl, by kernel_rfl, by kernel_rfl, by kernel_rfl, by kernel_rfl, by kernel_rfl, by kernel_rfl⟩
theorem ty83 : szOf Tryz.prog 83 = some 2 ∧ bytesOf Tryz.prog 83 = some 16 ∧ zeroOf Tryz.prog 83 = some [.c (.v (.int .i64 0)), .c (.v (.int .i64 0))] ∧ aggOf Tryz.prog 83 = some true ∧ fieldOf Tryz.prog 83 0 = some (0, 3) ∧ fieldOf Tryz.prog 83 1 = some (1, 3) ∧ placesOf Tryz.prog 83 = some (.st [(0, 1), (1, 1)]) ∧ cellTys Tryz.prog 8 83 = some [none, none] := ⟨by kernel_rfl, by kernel_rfl, by kernel_rfl, by kernel_rfl, by kernel_rfl, by kernel_rfl, by kernel_rfl, by kernel_rfl⟩
theorem ty86 : szOf Tryz.prog 86 = some 1 ∧ bytesOf Tryz.prog 86 = some 8 ∧ zeroOf Tryz.prog 86 = some [.c (.v (.int .u64 0))] ∧ aggOf Tryz.prog 86 = some false ∧ zero1 Tryz.prog 86 = some (.c (.v (.int .u64 0))) ∧ cellTys Tryz.prog 8 86 = some [none] := ⟨by kernel_rfl, by kernel_rfl, by kernel_rfl, by kernel_rfl, by kernel_rfl, by kernel_rfl⟩
theorem ty88 : szOf Tryz.prog 88 = some 4 ∧ bytesOf Tryz.prog 88 = some 32 ∧ zeroOf Tryz.prog 88 = some [.c (.v (.int .i64 0)), .c (.v (.int .i64 0)), .c (.v (.int .u64 0)), .c (.v (.int .i64 0))] ∧ aggOf Tryz.prog 88 = some true ∧ fieldOf Tryz.prog 88 0 = some (0, 3) ∧ fieldOf Tryz.prog 88 1 = some (1, 3) ∧ fieldOf Tryz.prog 88 2 = some (2, 86) ∧ fieldOf Tryz.prog 88 3 = some (3, 3) ∧ placesOf Tryz.prog 88 = some (.st [(0, 1), (1, 1), (2, 1), (3, 1)]) ∧ cellTys Tryz.prog 8 88 = some [none, none, none, none] := ⟨by kernel_rfl, by kernel_rfl, by kernel_rfl, by kernel_rfl, by kernel_rfl, by kernel_rfl, by kernel_rfl, by kernel_rfl, by kernel_rfl, by kernel_rfl⟩
theorem ty94 : szOf Tryz.prog 94 = some 1 ∧ bytesOf Tryz.prog 94 = some 24 ∧ zeroOf Tryz.prog 94 = some [.c (.s (some 0) 0 [])] ∧ aggOf Tryz.prog 94 = some false ∧ zero1 Tryz.prog 94 = some (.c (.s (some 0) 0 [])) ∧ elemOf Tryz.prog 94 = some 38 ∧ Tryz.prog.underlying 94 = some (.slice 38) ∧ cellTys Tryz.prog 8 94 = some [some 2] := ⟨by kernel_rfl, by kernel_rfl, by kernel_rfl, by kernel_rfl, by kernel_rfl, by kernel_rfl, by kernel_rfl, by kernel_rfl⟩
theorem ty102 : szOf Tryz.prog 102 = some 1 ∧ aggOf Tryz.prog 102 = some false := ⟨by kernel_rfl, by kernel_rfl⟩
theorem ty103 : szOf Tryz.prog 103 = some 1 ∧ bytesOf Tryz.prog 103 = some 8 ∧ zeroOf Tryz.prog 103 = some [.junk] ∧ aggOf Tryz.prog 103 = some false ∧ zero1 Tryz.prog 103 = some (.junk) ∧ Tryz.prog.underlying 103 = some (.map 9 102) ∧ cellTys Tryz.prog 8 103 = some [none] := ⟨by kernel_rfl, by kernel_rfl, by kernel_rfl, by kernel_rfl, by kernel_rfl, by kernel_rfl, by kernel_rfl⟩
theorem ty120 : szOf Tryz.prog 120 = some 4 ∧ bytesOf Tryz.prog 120 = some 32 ∧ zeroOf Tryz.prog 120 = some [.c (.v (.int .u64 0)), .c (.v (.int .u64 0)), .c (.v (.int .i64 0)), B false] ∧ aggOf Tryz.prog 120 = some true ∧ fieldOf Tryz.prog 120 0 = some (0, 86) ∧ fieldOf Tryz.prog 120 1 = some (1, 86) ∧ fieldOf Tryz.prog 120 2 = some (2, 3) ∧ fieldOf Tryz.prog 120 3 = some (3, 4) ∧ placesOf Tryz.prog 120 = some (.st [(0, 1), (1, 1), (2, 1), (3, 1)]) ∧ cellTys Tryz.prog 8 120 = some [none, none, none, none] := ⟨by kernel_rfl, by kernel_rfl, by kernel_rfl, by kernel_rfl, by kernel_rfl, by kernel_rfl, by kernel_rfl, by kernel_rfl, by kernel_rfl, by kernel_rfl⟩
theorem ty123 : szOf Tryz.prog 123 = some 1 ∧ bytesOf Tryz.prog 123 = some 8 ∧ zeroOf Tryz.prog 123 = some [.c (.v (.int .u64 0))] ∧ aggOf Tryz.prog 123 = some false ∧ zero1 Tryz.prog 123 = some (.c (.v (.int .u64 0))) ∧ cellTys Tryz.prog 8 123 = some [none] := ⟨by kernel_rfl, by kernel_rfl, by kernel_rfl, by kernel_rfl, by kernel_rfl, by kernel_rfl⟩
theorem ty137 : szOf Tryz.prog 137 = some 1 ∧ bytesOf Tryz.prog 137 = some 4 ∧ zeroOf Tryz.prog 137 = some [.c (.v (.int .u32 0))] ∧ aggOf Tryz.prog 137 = some false ∧ zero1 Tryz.prog 137 = some (.c (.v (.int .u32 0))) ∧ cellTys Tryz.prog 8 137 = some [none] := ⟨by kernel_rfl, by kernel_rfl, by kernel_rfl, by kernel_rfl, by kernel_rfl, by kernel_rfl⟩
theorem tb4 : (∀ x y a b, bin2 Tryz.prog .eql 4 x y (.c (.v (.bool a))) (.c (.v (.bool b))) = some (B (decide (a = b)))) ∧ ∀ x y a b, bin2 Tryz.prog .neq 4 x y (.c (.v (.bool a))) (.c (.v (.bool b))) = some (B (decide (¬ a = b))) := ⟨fun x y a b => bin_eqlB (by kernel_rfl) x y a b, fun x y a b => bin_neqB (by kernel_rfl) x y a b⟩
/-! quadrat/quadrattop.TopSections -/
theorem fn3 : E0.P.funcs[3]? = some Tryz.f3 := Tryz.func3
theorem body3 : Tryz.f3.body = some (codeOf Tryz.f3) := by kernel_rfl
theorem ok3 : okFuncN (E0.nd 3) Tryz.f3 = true := by kernel_rfl
theorem kr3 : E0.kr 3 = [(6, false)] := by kernel_rfl
theorem kp3_23 : E0.kp 3 23 = ([(3, false), (19, false), (22, false), (23, false)], []) := by kernel_rfl
theorem ow3_23 : E0.own 3 23 = [] := by kernel_rfl
theorem lp3_23 : ((E0.P.funcs[3]?).bind fun fn => fn.body.bind (findLoop 23)) = some (loopIn Tryz.f3 23) := by kernel_rfl
theorem kp3_10 : E0.kp 3 10 = ([(2, false), (3, false), (4, false), (7, false), (8, false), (10, false), (13, false), (15, false)], [(2, false), (3, false), (7, false), (8, false)]) := by kernel_rfl
theorem ow3_10 : E0.own 3 10 = [] := by kernel_rfl
theorem lp3_10 : ((E0.P.funcs[3]?).bind fun fn => fn.body.bind (findLoop 10)) = some (loopIn Tryz.f3 10) := by kernel_rfl
/-! quadrat/array.Valid -/
theorem fn4 : E0.P.funcs[4]? = some Tryz.f4 := Tryz.func4
theorem body4 : Tryz.f4.body = some (codeOf Tryz.f4) := by kernel_rfl
theorem ok4 : okFuncN (E0.nd 4) Tryz.f4 = true := by kernel_rfl
theorem kr4 : E0.kr 4 = [(2, false)] := by kernel_rfl
/-! quadrat/quadratlaw07.Awake -/
theorem fn5 : E0.P.funcs[5]? = some Tryz.f5 := Tryz.func5
theorem body5 : Tryz.f5.body = some (codeOf Tryz.f5) := by kernel_rfl
theorem ok5 : okFuncN (E0.nd 5) Tryz.f5 = true := by kernel_rfl
theorem kr5 : E0.kr 5 = [(0, false)] := by kernel_rfl
/-! quadrat/quadrattop.cut -/
theorem fn6 : E0.P.funcs[6]? = some Tryz.f6 := Tryz.func6
theorem body6 : Tryz.f6.body = some (codeOf Tryz.f6) := by kernel_rfl
theorem ok6 : okFuncN (E0.nd 6) Tryz.f6 = true := by kernel_rfl
theorem kr6 : E0.kr 6 = [(4, false), (5, false), (6, false)] := by kernel_rfl
theorem kp6_10 : E0.kp 6 10 = ([(2, false), (4, false), (5, false), (8, false), (9, false), (10, false), (11, false), (12, false)], [(4, false), (5, false), (9, false), (11, false)]) := by kernel_rfl
theorem ow6_10 : E0.own 6 10 = [(11, some 2, 1)] := by kernel_rfl
theorem lp6_10 : ((E0.P.funcs[6]?).bind fun fn => fn.body.bind (findLoop 10)) = some (loopIn Tryz.f6 10) := by kernel_rfl
/-! quadrat/array.Do -/
theorem fn7 : E0.P.funcs[7]? = some Tryz.f7 := Tryz.func7
theorem body7 : Tryz.f7.body = some (codeOf Tryz.f7) := by kernel_rfl
theorem ok7 : okFuncN (E0.nd 7) Tryz.f7 = true := by kernel_rfl
theorem kr7 : E0.kr 7 = [(6, false), (7, false)] := by kernel_rfl
/-! quadrat/array.One -/
theorem fn8 : E0.P.funcs[8]? = some Tryz.f8 := Tryz.func8
theorem body8 : Tryz.f8.body = some (codeOf Tryz.f8) := by kernel_rfl
theorem ok8 : okFuncN (E0.nd 8) Tryz.f8 = true := by kernel_rfl
theorem kr8 : E0.kr 8 = [(6, false), (7, false)] := by kernel_rfl
/-! quadrat/quadratref07.At -/
theorem fn9 : E0.P.funcs[9]? = some Tryz.f9 := Tryz.func9
theorem body9 : Tryz.f9.body = some (codeOf Tryz.f9) := by kernel_rfl
theorem ok9 : okFuncN (E0.nd 9) Tryz.f9 = true := by kernel_rfl
theorem kr9 : E0.kr 9 = [(4, false)] := by kernel_rfl
/-! quadrat/section.Cut -/
theorem fn10 : E0.P.funcs[10]? = some Tryz.f10 := Tryz.func10
theorem body10 : Tryz.f10.body = some (codeOf Tryz.f10) := by kernel_rfl
theorem ok10 : okFuncN (E0.nd 10) Tryz.f10 = true := by kernel_rfl
theorem kr10 : E0.kr 10 = [(4, false), (5, false)] := by kernel_rfl
theorem kp10_12 : E0.kp 10 12 = ([(2, false), (4, false), (10, false), (56, false), (57, false), (58, false)], [(2, false), (4, false), (10, false)]) := by kernel_rfl
theorem ow10_12 : E0.own 10 12 = [(10, some 1, 1), (10, some 2, 1)] := by kernel_rfl
theorem lp10_12 : ((E0.P.funcs[10]?).bind fun fn => fn.body.bind (findLoop 12)) = some (loopIn Tryz.f10 12) := by kernel_rfl
theorem kp10_4 : E0.kp 10 4 = ([(1, false), (2, false), (4, false), (31, false), (32, false), (33, false)], [(1, false), (2, false), (4, false)]) := by kernel_rfl
theorem ow10_4 : E0.own 10 4 = [] := by kernel_rfl
theorem lp10_4 : ((E0.P.funcs[10]?).bind fun fn => fn.body.bind (findLoop 4)) = some (loopIn Tryz.f10 4) := by kernel_rfl
/-! quadrat/section.Places -/
theorem fn11 : E0.P.funcs[11]? = some Tryz.f11 := Tryz.func11
theorem body11 : Tryz.f11.body = some (codeOf Tryz.f11) := by kernel_rfl
theorem ok11 : okFuncN (E0.nd 11) Tryz.f11 = true := by kernel_rfl
theorem kr11 : E0.kr 11 = [(2, false), (3, false)] := by kernel_rfl
theorem kp11_14 : E0.kp 11 14 = ([(1, false), (4, false), (5, false), (6, false), (7, true), (8, false), (22, false), (23, false), (24, false), (35, false), (36, false), (37, false)], [(1, false), (4, false), (5, false), (6, false), (7, false), (8, false), (22, false), (23, false), (24, false)]) := by kernel_rfl
theorem ow11_14 : E0.own 11 14 = [(4, none, 1)] := by kernel_rfl
theorem lp11_14 : ((E0.P.funcs[11]?).bind fun fn => fn.body.bind (findLoop 14)) = some (loopIn Tryz.f11 14) := by kernel_rfl
theorem kp11_11 : E0.kp 11 11 = ([(1, false), (4, false), (5, false), (6, false), (7, true), (8, false), (22, false), (23, false), (24, false)], [(1, false), (4, false), (22, false), (23, false), (24, false)]) := by kernel_rfl
theorem ow11_11 : E0.own 11 11 = [(4, none, 1)] := by kernel_rfl
theorem lp11_11 : ((E0.P.funcs[11]?).bind fun fn => fn.body.bind (findLoop 11)) = some (loopIn Tryz.f11 11) := by kernel_rfl
theorem kp11_7 : E0.kp 11 7 = ([(1, false), (4, false), (22, false), (23, false), (24, false)], [(4, false)]) := by kernel_rfl
theorem ow11_7 : E0.own 11 7 = [(4, none, 1)] := by kernel_rfl
theorem lp11_7 : ((E0.P.funcs[11]?).bind fun fn => fn.body.bind (findLoop 7)) = some (loopIn Tryz.f11 7) := by kernel_rfl
/-! quadrat/quadratref07.SameShape -/
theorem fn12 : E0.P.funcs[12]? = some Tryz.f12 := Tryz.func12
theorem body12 : Tryz.f12.body = some (codeOf Tryz.f12) := by kernel_rfl
theorem ok12 : okFuncN (E0.nd 12) Tryz.f12 = true := by kernel_rfl
theorem kr12 : E0.kr 12 = [(4, false)] := by kernel_rfl
theorem kp12_4 : E0.kp 12 4 = ([(0, false), (1, false), (5, false)], []) := by kernel_rfl
theorem ow12_4 : E0.own 12 4 = [] := by kernel_rfl
theorem lp12_4 : ((E0.P.funcs[12]?).bind fun fn => fn.body.bind (findLoop 4)) = some (loopIn Tryz.f12 4) := by kernel_rfl
/-! quadrat/array.size -/
theorem fn13 : E0.P.funcs[13]? = some Tryz.f13 := Tryz.func13
theorem body13 : Tryz.f13.body = some (codeOf Tryz.f13) := by kernel_rfl
theorem ok13 : okFuncN (E0.nd 13) Tryz.f13 = true := by kernel_rfl
theorem kr13 : E0.kr 13 = [(2, false)] := by kernel_rfl
/-! slices.ContainsFunc[[]int,int] -/
theorem fn14 : E0.P.funcs[14]? = some Tryz.f14 := Tryz.func14
theorem body14 : Tryz.f14.body = some (codeOf Tryz.f14) := by kernel_rfl
theorem ok14 : okFuncN (E0.nd 14) Tryz.f14 = true := by kernel_rfl
theorem kr14 : E0.kr 14 = [(4, false)] := by kernel_rfl
/-! quadrat/array.Valid$1 -/
theorem fn15 : E0.P.funcs[15]? = some Tryz.f15 := Tryz.func15
theorem body15 : Tryz.f15.body = some (codeOf Tryz.f15) := by kernel_rfl
theorem ok15 : okFuncN (E0.nd 15) Tryz.f15 = true := by kernel_rfl
theorem kr15 : E0.kr 15 = [(3, false)] := by kernel_rfl
/-! quadrat/array.Call -/
theorem fn17 : E0.P.funcs[17]? = some Tryz.f17 := Tryz.func17
theorem body17 : Tryz.f17.body = some (codeOf Tryz.f17) := by kernel_rfl
theorem ok17 : okFuncN (E0.nd 17) Tryz.f17 = true := by kernel_rfl
theorem kr17 : E0.kr 17 = [(4, false), (5, false)] := by kernel_rfl
/-! quadrat/section.Whole -/
theorem fn18 : E0.P.funcs[18]? = some Tryz.f18 := Tryz.func18
theorem body18 : Tryz.f18.body = some (codeOf Tryz.f18) := by kernel_rfl
theorem ok18 : okFuncN (E0.nd 18) Tryz.f18 = true := by kernel_rfl
theorem kr18 : E0.kr 18 = [(2, false), (3, false)] := by kernel_rfl
theorem kp18_6 : E0.kp 18 6 = ([(2, false), (4, false), (5, false), (15, false), (16, false), (17, false)], [(2, false), (4, false)]) := by kernel_rfl
theorem ow18_6 : E0.own 18 6 = [(4, some 2, 1)] := by kernel_rfl
theorem lp18_6 : ((E0.P.funcs[18]?).bind fun fn => fn.body.bind (findLoop 6)) = some (loopIn Tryz.f18 6) := by kernel_rfl
/-! quadrat/array.Kind -/
theorem fn19 : E0.P.funcs[19]? = some Tryz.f19 := Tryz.func19
theorem body19 : Tryz.f19.body = some (codeOf Tryz.f19) := by kernel_rfl
theorem ok19 : okFuncN (E0.nd 19) Tryz.f19 = true := by kernel_rfl
theorem kr19 : E0.kr 19 = [(6, false)] := by kernel_rfl
/-! quadrat/array.shaped -/
theorem fn20 : E0.P.funcs[20]? = some Tryz.f20 := Tryz.func20
theorem body20 : Tryz.f20.body = some (codeOf Tryz.f20) := by kernel_rfl
theorem ok20 : okFuncN (E0.nd 20) Tryz.f20 = true := by kernel_rfl
theorem kr20 : E0.kr 20 = [(2, false), (3, false)] := by kernel_rfl
theorem kp20_4 : E0.kp 20 4 = ([(4, false), (5, false), (8, false), (9, false), (10, false)], [(4, false)]) := by kernel_rfl
theorem ow20_4 : E0.own 20 4 = [] := by kernel_rfl
theorem lp20_4 : ((E0.P.funcs[20]?).bind fun fn => fn.body.bind (findLoop 4)) = some (loopIn Tryz.f20 4) := by kernel_rfl
/-! quadrat/array.each -/
theorem fn21 : E0.P.funcs[21]? = some Tryz.f21 := Tryz.func21
theorem body21 : Tryz.f21.body = some (codeOf Tryz.f21) := by kernel_rfl
theorem ok21 : okFuncN (E0.nd 21) Tryz.f21 = true := by kernel_rfl
theorem kr21 : E0.kr 21 = [(6, false), (7, false)] := by kernel_rfl
theorem kp21_3 : E0.kp 21 3 = ([(2, false), (6, false), (8, false), (16, false), (17, false)], [(6, false), (8, false)]) := by kernel_rfl
theorem ow21_3 : E0.own 21 3 = [(8, some 2, 1)] := by kernel_rfl
theorem lp21_3 : ((E0.P.funcs[21]?).bind fun fn => fn.body.bind (findLoop 3)) = some (loopIn Tryz.f21 3) := by kernel_rfl
/-! quadrat/array.Do$1 -/
theorem fn22 : E0.P.funcs[22]? = some Tryz.f22 := Tryz.func22
theorem body22 : Tryz.f22.body = some (codeOf Tryz.f22) := by kernel_rfl
theorem ok22 : okFuncN (E0.nd 22) Tryz.f22 = true := by kernel_rfl
theorem kr22 : E0.kr 22 = [(5, false), (6, false)] := by kernel_rfl
/-! quadrat/array.one -/
theorem fn23 : E0.P.funcs[23]? = some Tryz.f23 := Tryz.func23
theorem body23 : Tryz.f23.body = some (codeOf Tryz.f23) := by kernel_rfl
theorem ok23 : okFuncN (E0.nd 23) Tryz.f23 = true := by kernel_rfl
theorem kr23 : E0.kr 23 = [(6, false), (7, false)] := by kernel_rfl
/-! quadrat/array.IsValue -/
theorem fn25 : E0.P.funcs[25]? = some Tryz.f25 := Tryz.func25
theorem body25 : Tryz.f25.body = some (codeOf Tryz.f25) := by kernel_rfl
theorem ok25 : okFuncN (E0.nd 25) Tryz.f25 = true := by kernel_rfl
theorem kr25 : E0.kr 25 = [(2, false)] := by kernel_rfl
/-! quadrat/section.Valid -/
theorem fn26 : E0.P.funcs[26]? = some Tryz.f26 := Tryz.func26
theorem body26 : Tryz.f26.body = some (codeOf Tryz.f26) := by kernel_rfl
theorem ok26 : okFuncN (E0.nd 26) Tryz.f26 = true := by kernel_rfl
theorem kr26 : E0.kr 26 = [(2, false)] := by kernel_rfl
/-! quadrat/section.Count -/
theorem fn27 : E0.P.funcs[27]? = some Tryz.f27 := Tryz.func27
theorem body27 : Tryz.f27.body = some (codeOf Tryz.f27) := by kernel_rfl
theorem ok27 : okFuncN (E0.nd 27) Tryz.f27 = true := by kernel_rfl
theorem kr27 : E0.kr 27 = [(2, false), (3, false)] := by kernel_rfl
/-! quadrat/section.size -/
theorem fn28 : E0.P.funcs[28]? = some Tryz.f28 := Tryz.func28
theorem body28 : Tryz.f28.body = some (codeOf Tryz.f28) := by kernel_rfl
theorem ok28 : okFuncN (E0.nd 28) Tryz.f28 = true := by kernel_rfl
theorem kr28 : E0.kr 28 = [(2, false)] := by kernel_rfl
theorem kp28_5 : E0.kp 28 5 = ([(3, false), (13, false), (14, false), (15, false)], [(3, false)]) := by kernel_rfl
theorem ow28_5 : E0.own 28 5 = [] := by kernel_rfl
theorem lp28_5 : ((E0.P.funcs[28]?).bind fun fn => fn.body.bind (findLoop 5)) = some (loopIn Tryz.f28 5) := by kernel_rfl
/-! quadrat/section.Size -/
theorem fn29 : E0.P.funcs[29]? = some Tryz.f29 := Tryz.func29
theorem body29 : Tryz.f29.body = some (codeOf Tryz.f29) := by kernel_rfl
theorem ok29 : okFuncN (E0.nd 29) Tryz.f29 = true := by kernel_rfl
theorem kr29 : E0.kr 29 = [(2, false), (3, false)] := by kernel_rfl
/-! slices.IndexFunc[[]int,int] -/
theorem fn30 : E0.P.funcs[30]? = some Tryz.f30 := Tryz.func30
theorem body30 : Tryz.f30.body = some (codeOf Tryz.f30) := by kernel_rfl
theorem ok30 : okFuncN (E0.nd 30) Tryz.f30 = true := by kernel_rfl
theorem kr30 : E0.kr 30 = [(4, false)] := by kernel_rfl
theorem kp30_2 : E0.kp 30 2 = ([(0, false), (1, false), (7, false), (8, false)], []) := by kernel_rfl
theorem ow30_2 : E0.own 30 2 = [] := by kernel_rfl
theorem lp30_2 : ((E0.P.funcs[30]?).bind fun fn => fn.body.bind (findLoop 2)) = some (loopIn Tryz.f30 2) := by kernel_rfl
/-! quadrat/array.fits -/
theorem fn16 : E0.P.funcs[16]? = some Tryz.f16 := Tryz.func16
theorem body16 : Tryz.f16.body = some (codeOf Tryz.f16) := by kernel_rfl
theorem ok16 : okFuncN (E0.nd 16) Tryz.f16 = true := by kernel_rfl
theorem kr16 : E0.kr 16 = [(4, false)] := by kernel_rfl
/-! quadrat/array.Arity -/
theorem fn33 : E0.P.funcs[33]? = some Tryz.f33 := Tryz.func33
theorem body33 : Tryz.f33.body = some (codeOf Tryz.f33) := by kernel_rfl
theorem ok33 : okFuncN (E0.nd 33) Tryz.f33 = true := by kernel_rfl
theorem kr33 : E0.kr 33 = [(2, false), (3, false)] := by kernel_rfl
/-! slices.ContainsFunc[[]quadrat/api.Array,quadrat/api.Array] -/
theorem fn34 : E0.P.funcs[34]? = some Tryz.f34 := Tryz.func34
theorem body34 : Tryz.f34.body = some (codeOf Tryz.f34) := by kernel_rfl
theorem ok34 : okFuncN (E0.nd 34) Tryz.f34 = true := by kernel_rfl
theorem kr34 : E0.kr 34 = [(4, false)] := by kernel_rfl
/-! quadrat/array.Call$1 -/
theorem fn35 : E0.P.funcs[35]? = some Tryz.f35 := Tryz.func35
theorem body35 : Tryz.f35.body = some (codeOf Tryz.f35) := by kernel_rfl
theorem ok35 : okFuncN (E0.nd 35) Tryz.f35 = true := by kernel_rfl
theorem kr35 : E0.kr 35 = [(2, false)] := by kernel_rfl
/-! quadrat/array.elemental -/
theorem fn36 : E0.P.funcs[36]? = some Tryz.f36 := Tryz.func36
theorem body36 : Tryz.f36.body = some (codeOf Tryz.f36) := by kernel_rfl
theorem ok36 : okFuncN (E0.nd 36) Tryz.f36 = true := by kernel_rfl
theorem kr36 : E0.kr 36 = [(4, false), (5, false)] := by kernel_rfl
/-! quadrat/array.reduce -/
theorem fn37 : E0.P.funcs[37]? = some Tryz.f37 := Tryz.func37
theorem body37 : Tryz.f37.body = some (codeOf Tryz.f37) := by kernel_rfl
theorem ok37 : okFuncN (E0.nd 37) Tryz.f37 = true := by kernel_rfl
theorem kr37 : E0.kr 37 = [(4, false), (5, false)] := by kernel_rfl
theorem kp37_21 : E0.kp 37 21 = ([(0, false), (3, false), (4, false), (8, false), (89, false), (90, false), (91, false)], [(0, false), (3, false), (4, false), (8, false)]) := by kernel_rfl
theorem ow37_21 : E0.own 37 21 = [] := by kernel_rfl
theorem lp37_21 : ((E0.P.funcs[37]?).bind fun fn => fn.body.bind (findLoop 21)) = some (loopIn Tryz.f37 21) := by kernel_rfl
/-! quadrat/array.locate -/
theorem fn38 : E0.P.funcs[38]? = some Tryz.f38 := Tryz.func38
theorem body38 : Tryz.f38.body = some (codeOf Tryz.f38) := by kernel_rfl
theorem ok38 : okFuncN (E0.nd 38) Tryz.f38 = true := by kernel_rfl
theorem kr38 : E0.kr 38 = [(4, false), (5, false)] := by kernel_rfl
theorem kp38_9 : E0.kp 38 9 = ([(0, false), (3, false), (4, false), (6, false), (29, false), (30, false)], [(4, false), (6, false)]) := by kernel_rfl
theorem ow38_9 : E0.own 38 9 = [] := by kernel_rfl
theorem lp38_9 : ((E0.P.funcs[38]?).bind fun fn => fn.body.bind (findLoop 9)) = some (loopIn Tryz.f38 9) := by kernel_rfl
/-! quadrat/array.reshapes -/
theorem fn39 : E0.P.funcs[39]? = some Tryz.f39 := Tryz.func39
theorem body39 : Tryz.f39.body = some (codeOf Tryz.f39) := by kernel_rfl
theorem ok39 : okFuncN (E0.nd 39) Tryz.f39 = true := by kernel_rfl
theorem kr39 : E0.kr 39 = [(4, false), (5, false)] := by kernel_rfl
theorem kp39_13 : E0.kp 39 13 = ([(4, false), (6, false), (7, false), (8, false), (45, false), (46, false), (52, false), (53, false)], [(4, false), (6, false), (7, false), (45, false), (46, false)]) := by kernel_rfl
theorem ow39_13 : E0.own 39 13 = [(7, some 2, 1)] := by kernel_rfl
theorem lp39_13 : ((E0.P.funcs[39]?).bind fun fn => fn.body.bind (findLoop 13)) = some (loopIn Tryz.f39 13) := by kernel_rfl
theorem kp39_10 : E0.kp 39 10 = ([(4, false), (6, false), (7, false), (45, false), (46, false)], [(4, false), (7, false)]) := by kernel_rfl
theorem ow39_10 : E0.own 39 10 = [(7, some 2, 1)] := by kernel_rfl
theorem lp39_10 : ((E0.P.funcs[39]?).bind fun fn => fn.body.bind (findLoop 10)) = some (loopIn Tryz.f39 10) := by kernel_rfl
/-! slices.Clone[[]int,int] -/
theorem fn40 : E0.P.funcs[40]? = some Tryz.f40 := Tryz.func40
theorem body40 : Tryz.f40.body = some (codeOf Tryz.f40) := by kernel_rfl
theorem ok40 : okFuncN (E0.nd 40) Tryz.f40 = true := by kernel_rfl
theorem kr40 : E0.kr 40 = [(2, false)] := by kernel_rfl
/-! quadrat/array.isNumber -/
theorem fn41 : E0.P.funcs[41]? = some Tryz.f41 := Tryz.func41
theorem body41 : Tryz.f41.body = some (codeOf Tryz.f41) := by kernel_rfl
theorem ok41 : okFuncN (E0.nd 41) Tryz.f41 = true := by kernel_rfl
theorem kr41 : E0.kr 41 = [(2, false)] := by kernel_rfl
/-! slices.Contains[[]string,string] -/
theorem fn42 : E0.P.funcs[42]? = some Tryz.f42 := Tryz.func42
theorem body42 : Tryz.f42.body = some (codeOf Tryz.f42) := by kernel_rfl
theorem ok42 : okFuncN (E0.nd 42) Tryz.f42 = true := by kernel_rfl
theorem kr42 : E0.kr 42 = [(4, false)] := by kernel_rfl
/-! quadrat/array.isScalar -/
theorem fn43 : E0.P.funcs[43]? = some Tryz.f43 := Tryz.func43
theorem body43 : Tryz.f43.body = some (codeOf Tryz.f43) := by kernel_rfl
theorem ok43 : okFuncN (E0.nd 43) Tryz.f43 = true := by kernel_rfl
theorem kr43 : E0.kr 43 = [(2, false)] := by kernel_rfl
/-! slices.Equal[[]int,int] -/
theorem fn44 : E0.P.funcs[44]? = some Tryz.f44 := Tryz.func44
theorem body44 : Tryz.f44.body = some (codeOf Tryz.f44) := by kernel_rfl
theorem ok44 : okFuncN (E0.nd 44) Tryz.f44 = true := by kernel_rfl
theorem kr44 : E0.kr 44 = [(4, false)] := by kernel_rfl
theorem kp44_4 : E0.kp 44 4 = ([(0, false), (1, false), (12, false), (13, false)], []) := by kernel_rfl
theorem ow44_4 : E0.own 44 4 = [] := by kernel_rfl
theorem lp44_4 : ((E0.P.funcs[44]?).bind fun fn => fn.body.bind (findLoop 4)) = some (loopIn Tryz.f44 4) := by kernel_rfl
/-! quadrat/array.at -/
theorem fn24 : E0.P.funcs[24]? = some Tryz.f24 := Tryz.func24
theorem body24 : Tryz.f24.body = some (codeOf Tryz.f24) := by kernel_rfl
theorem ok24 : okFuncN (E0.nd 24) Tryz.f24 = true := by kernel_rfl
theorem kr24 : E0.kr 24 = [(4, false)] := by kernel_rfl
/-! quadrat/array.logical -/
theorem fn45 : E0.P.funcs[45]? = some Tryz.f45 := Tryz.func45
theorem body45 : Tryz.f45.body = some (codeOf Tryz.f45) := by kernel_rfl
theorem ok45 : okFuncN (E0.nd 45) Tryz.f45 = true := by kernel_rfl
theorem kr45 : E0.kr 45 = [(2, false)] := by kernel_rfl
/-! quadrat/array.reckon -/
theorem fn46 : E0.P.funcs[46]? = some Tryz.f46 := Tryz.func46
theorem body46 : Tryz.f46.body = some (codeOf Tryz.f46) := by kernel_rfl
theorem ok46 : okFuncN (E0.nd 46) Tryz.f46 = true := by kernel_rfl
theorem kr46 : E0.kr 46 = [(6, false), (7, false)] := by kernel_rfl
/-! quadrat/array.holds -/
theorem fn47 : E0.P.funcs[47]? = some Tryz.f47 := Tryz.func47
theorem body47 : Tryz.f47.body = some (codeOf Tryz.f47) := by kernel_rfl
theorem ok47 : okFuncN (E0.nd 47) Tryz.f47 = true := by kernel_rfl
theorem kr47 : E0.kr 47 = [(4, false)] := by kernel_rfl
/-! quadrat/array.compared -/
theorem fn48 : E0.P.funcs[48]? = some Tryz.f48 := Tryz.func48
theorem body48 : Tryz.f48.body = some (codeOf Tryz.f48) := by kernel_rfl
theorem ok48 : okFuncN (E0.nd 48) Tryz.f48 = true := by kernel_rfl
theorem kr48 : E0.kr 48 = [(4, false)] := by kernel_rfl
/-! quadrat/section.Valid$1 -/
theorem fn49 : E0.P.funcs[49]? = some Tryz.f49 := Tryz.func49
theorem body49 : Tryz.f49.body = some (codeOf Tryz.f49) := by kernel_rfl
theorem ok49 : okFuncN (E0.nd 49) Tryz.f49 = true := by kernel_rfl
theorem kr49 : E0.kr 49 = [(2, false)] := by kernel_rfl
/-! quadrat/section.ends -/
theorem fn51 : E0.P.funcs[51]? = some Tryz.f51 := Tryz.func51
theorem body51 : Tryz.f51.body = some (codeOf Tryz.f51) := by kernel_rfl
theorem ok51 : okFuncN (E0.nd 51) Tryz.f51 = true := by kernel_rfl
theorem kr51 : E0.kr 51 = [(2, false), (3, false)] := by kernel_rfl
theorem kp51_3 : E0.kp 51 3 = ([(1, false), (2, false), (3, false), (12, false), (13, false), (14, false)], [(2, false), (3, false)]) := by kernel_rfl
theorem ow51_3 : E0.own 51 3 = [] := by kernel_rfl
theorem lp51_3 : ((E0.P.funcs[51]?).bind fun fn => fn.body.bind (findLoop 3)) = some (loopIn Tryz.f51 3) := by kernel_rfl
/-! quadrat/section.isNumber -/
theorem fn50 : E0.P.funcs[50]? = some Tryz.f50 := Tryz.func50
theorem body50 : Tryz.f50.body = some (codeOf Tryz.f50) := by kernel_rfl
theorem ok50 : okFuncN (E0.nd 50) Tryz.f50 = true := by kernel_rfl
theorem kr50 : E0.kr 50 = [(2, false)] := by kernel_rfl
/-! quadrat/section.size$1 -/
theorem fn52 : E0.P.funcs[52]? = some Tryz.f52 := Tryz.func52
theorem body52 : Tryz.f52.body = some (codeOf Tryz.f52) := by kernel_rfl
theorem ok52 : okFuncN (E0.nd 52) Tryz.f52 = true := by kernel_rfl
theorem kr52 : E0.kr 52 = [(2, false)] := by kernel_rfl
/-! quadrat/float.Valid -/
theorem fn31 : E0.P.funcs[31]? = some Tryz.f31 := Tryz.func31
theorem body31 : Tryz.f31.body = some (codeOf Tryz.f31) := by kernel_rfl
theorem ok31 : okFuncN (E0.nd 31) Tryz.f31 = true := by kernel_rfl
theorem kr31 : E0.kr 31 = [(4, false)] := by kernel_rfl
/-! quadrat/array.bytes -/
theorem fn32 : E0.P.funcs[32]? = some Tryz.f32 := Tryz.func32
theorem body32 : Tryz.f32.body = some (codeOf Tryz.f32) := by kernel_rfl
theorem ok32 : okFuncN (E0.nd 32) Tryz.f32 = true := by kernel_rfl
theorem kr32 : E0.kr 32 = [(2, false)] := by kernel_rfl
/-! quadrat/array.Names -/
theorem fn55 : E0.P.funcs[55]? = some Tryz.f55 := Tryz.func55
theorem body55 : Tryz.f55.body = some (codeOf Tryz.f55) := by kernel_rfl
theorem ok55 : okFuncN (E0.nd 55) Tryz.f55 = true := by kernel_rfl
theorem kr55 : E0.kr 55 = [(0, false)] := by kernel_rfl
/-! slices.IndexFunc[[]quadrat/api.Array,quadrat/api.Array] -/
theorem fn56 : E0.P.funcs[56]? = some Tryz.f56 := Tryz.func56
theorem body56 : Tryz.f56.body = some (codeOf Tryz.f56) := by kernel_rfl
theorem ok56 : okFuncN (E0.nd 56) Tryz.f56 = true := by kernel_rfl
theorem kr56 : E0.kr 56 = [(4, false)] := by kernel_rfl
theorem kp56_2 : E0.kp 56 2 = ([(0, false), (1, false), (7, false), (8, false)], []) := by kernel_rfl
theorem ow56_2 : E0.own 56 2 = [] := by kernel_rfl
theorem lp56_2 : ((E0.P.funcs[56]?).bind fun fn => fn.body.bind (findLoop 2)) = some (loopIn Tryz.f56 2) := by kernel_rfl
/-! quadrat/array.elementalKind -/
theorem fn57 : E0.P.funcs[57]? = some Tryz.f57 := Tryz.func57
theorem body57 : Tryz.f57.body = some (codeOf Tryz.f57) := by kernel_rfl
theorem ok57 : okFuncN (E0.nd 57) Tryz.f57 = true := by kernel_rfl
theorem kr57 : E0.kr 57 = [(4, false)] := by kernel_rfl
/-! quadrat/array.elemental$1 -/
theorem fn58 : E0.P.funcs[58]? = some Tryz.f58 := Tryz.func58
theorem body58 : Tryz.f58.body = some (codeOf Tryz.f58) := by kernel_rfl
theorem ok58 : okFuncN (E0.nd 58) Tryz.f58 = true := by kernel_rfl
theorem kr58 : E0.kr 58 = [(5, false), (6, false)] := by kernel_rfl
theorem kp58_3 : E0.kp 58 3 = ([(0, false), (2, false), (3, false), (5, false), (7, false), (10, false), (11, false), (12, false)], [(2, false), (3, false), (5, false), (7, false)]) := by kernel_rfl
theorem ow58_3 : E0.own 58 3 = [(7, none, 2)] := by kernel_rfl
theorem lp58_3 : ((E0.P.funcs[58]?).bind fun fn => fn.body.bind (findLoop 3)) = some (loopIn Tryz.f58 3) := by kernel_rfl
/-! quadrat/array.scalar -/
theorem fn60 : E0.P.funcs[60]? = some Tryz.f60 := Tryz.func60
theorem body60 : Tryz.f60.body = some (codeOf Tryz.f60) := by kernel_rfl
theorem ok60 : okFuncN (E0.nd 60) Tryz.f60 = true := by kernel_rfl
theorem kr60 : E0.kr 60 = [(2, false)] := by kernel_rfl
/-! quadrat/array.fold -/
theorem fn61 : E0.P.funcs[61]? = some Tryz.f61 := Tryz.func61
theorem body61 : Tryz.f61.body = some (codeOf Tryz.f61) := by kernel_rfl
theorem ok61 : okFuncN (E0.nd 61) Tryz.f61 = true := by kernel_rfl
theorem kr61 : E0.kr 61 = [(4, false), (5, false)] := by kernel_rfl
theorem kp61_5 : E0.kp 61 5 = ([(3, false), (4, false), (6, false), (7, false), (21, false), (22, false)], [(4, false), (7, false)]) := by kernel_rfl
theorem ow61_5 : E0.own 61 5 = [] := by kernel_rfl
theorem lp61_5 : ((E0.P.funcs[61]?).bind fun fn => fn.body.bind (findLoop 5)) = some (loopIn Tryz.f61 5) := by kernel_rfl
/-! quadrat/array.extreme -/
theorem fn62 : E0.P.funcs[62]? = some Tryz.f62 := Tryz.func62
theorem body62 : Tryz.f62.body = some (codeOf Tryz.f62) := by kernel_rfl
theorem ok62 : okFuncN (E0.nd 62) Tryz.f62 = true := by kernel_rfl
theorem kr62 : E0.kr 62 = [(4, false)] := by kernel_rfl
theorem kp62_10 : E0.kp 62 10 = ([(3, false), (4, false), (5, false), (6, false), (32, false), (33, false)], [(4, false), (6, false)]) := by kernel_rfl
theorem ow62_10 : E0.own 62 10 = [] := by kernel_rfl
theorem lp62_10 : ((E0.P.funcs[62]?).bind fun fn => fn.body.bind (findLoop 10)) = some (loopIn Tryz.f62 10) := by kernel_rfl
/-! quadrat/array.better -/
theorem fn63 : E0.P.funcs[63]? = some Tryz.f63 := Tryz.func63
theorem body63 : Tryz.f63.body = some (codeOf Tryz.f63) := by kernel_rfl
theorem ok63 : okFuncN (E0.nd 63) Tryz.f63 = true := by kernel_rfl
theorem kr63 : E0.kr 63 = [(6, false)] := by kernel_rfl
/-! quadrat/array.reshape -/
theorem fn64 : E0.P.funcs[64]? = some Tryz.f64 := Tryz.func64
theorem body64 : Tryz.f64.body = some (codeOf Tryz.f64) := by kernel_rfl
theorem ok64 : okFuncN (E0.nd 64) Tryz.f64 = true := by kernel_rfl
theorem kr64 : E0.kr 64 = [(4, false), (5, false)] := by kernel_rfl
/-! quadrat/array.matmul -/
theorem fn65 : E0.P.funcs[65]? = some Tryz.f65 := Tryz.func65
theorem body65 : Tryz.f65.body = some (codeOf Tryz.f65) := by kernel_rfl
theorem kr65 : E0.kr 65 = [(4, false), (5, false)] := by kernel_rfl
/-! quadrat/array.cshift -/
theorem fn66 : E0.P.funcs[66]? = some Tryz.f66 := Tryz.func66
theorem body66 : Tryz.f66.body = some (codeOf Tryz.f66) := by kernel_rfl
theorem ok66 : okFuncN (E0.nd 66) Tryz.f66 = true := by kernel_rfl
theorem kr66 : E0.kr 66 = [(4, false), (5, false)] := by kernel_rfl
theorem kp66_8 : E0.kp 66 8 = ([(2, false), (3, false), (4, false), (6, false), (7, false), (35, false), (36, false)], [(4, false), (7, false)]) := by kernel_rfl
theorem ow66_8 : E0.own 66 8 = [(7, some 2, 1)] := by kernel_rfl
theorem lp66_8 : ((E0.P.funcs[66]?).bind fun fn => fn.body.bind (findLoop 8)) = some (loopIn Tryz.f66 8) := by kernel_rfl
/-! quadrat/array.spread -/
theorem fn67 : E0.P.funcs[67]? = some Tryz.f67 := Tryz.func67
theorem body67 : Tryz.f67.body = some (codeOf Tryz.f67) := by kernel_rfl
theorem ok67 : okFuncN (E0.nd 67) Tryz.f67 = true := by kernel_rfl
theorem kr67 : E0.kr 67 = [(4, false), (5, false)] := by kernel_rfl
/-! quadrat/array.pack -/
theorem fn68 : E0.P.funcs[68]? = some Tryz.f68 := Tryz.func68
theorem body68 : Tryz.f68.body = some (codeOf Tryz.f68) := by kernel_rfl
theorem ok68 : okFuncN (E0.nd 68) Tryz.f68 = true := by kernel_rfl
theorem kr68 : E0.kr 68 = [(4, false), (5, false)] := by kernel_rfl
theorem kp68_9 : E0.kp 68 9 = ([(3, false), (4, false), (6, false), (32, false), (33, false), (34, false)], [(4, false), (6, false)]) := by kernel_rfl
theorem ow68_9 : E0.own 68 9 = [(6, some 2, 1)] := by kernel_rfl
theorem lp68_9 : ((E0.P.funcs[68]?).bind fun fn => fn.body.bind (findLoop 9)) = some (loopIn Tryz.f68 9) := by kernel_rfl
/-! slices.Index[[]string,string] -/
theorem fn69 : E0.P.funcs[69]? = some Tryz.f69 := Tryz.func69
theorem body69 : Tryz.f69.body = some (codeOf Tryz.f69) := by kernel_rfl
theorem ok69 : okFuncN (E0.nd 69) Tryz.f69 = true := by kernel_rfl
theorem kr69 : E0.kr 69 = [(4, false)] := by kernel_rfl
theorem kp69_2 : E0.kp 69 2 = ([(0, false), (1, false), (7, false), (8, false)], []) := by kernel_rfl
theorem ow69_2 : E0.own 69 2 = [] := by kernel_rfl
theorem lp69_2 : ((E0.P.funcs[69]?).bind fun fn => fn.body.bind (findLoop 2)) = some (loopIn Tryz.f69 2) := by kernel_rfl
/-! quadrat/array.to -/
theorem fn70 : E0.P.funcs[70]? = some Tryz.f70 := Tryz.func70
theorem body70 : Tryz.f70.body = some (codeOf Tryz.f70) := by kernel_rfl
theorem ok70 : okFuncN (E0.nd 70) Tryz.f70 = true := by kernel_rfl
theorem kr70 : E0.kr 70 = [(4, false), (5, false)] := by kernel_rfl
/-! quadrat/array.integer -/
theorem fn71 : E0.P.funcs[71]? = some Tryz.f71 := Tryz.func71
theorem body71 : Tryz.f71.body = some (codeOf Tryz.f71) := by kernel_rfl
theorem ok71 : okFuncN (E0.nd 71) Tryz.f71 = true := by kernel_rfl
theorem kr71 : E0.kr 71 = [(2, false), (3, false)] := by kernel_rfl
/-! quadrat/float.Add -/
theorem fn72 : E0.P.funcs[72]? = some Tryz.f72 := Tryz.func72
theorem body72 : Tryz.f72.body = some (codeOf Tryz.f72) := by kernel_rfl
theorem ok72 : okFuncN (E0.nd 72) Tryz.f72 = true := by kernel_rfl
theorem kr72 : E0.kr 72 = [(8, false), (9, false), (10, false)] := by kernel_rfl
/-! quadrat/float.Sub -/
theorem fn73 : E0.P.funcs[73]? = some Tryz.f73 := Tryz.func73
theorem body73 : Tryz.f73.body = some (codeOf Tryz.f73) := by kernel_rfl
theorem ok73 : okFuncN (E0.nd 73) Tryz.f73 = true := by kernel_rfl
theorem kr73 : E0.kr 73 = [(8, false), (9, false), (10, false)] := by kernel_rfl
/-! quadrat/float.Mul -/
theorem fn74 : E0.P.funcs[74]? = some Tryz.f74 := Tryz.func74
theorem body74 : Tryz.f74.body = some (codeOf Tryz.f74) := by kernel_rfl
theorem ok74 : okFuncN (E0.nd 74) Tryz.f74 = true := by kernel_rfl
theorem kr74 : E0.kr 74 = [(8, false), (9, false), (10, false)] := by kernel_rfl
/-! quadrat/float.Div -/
theorem fn75 : E0.P.funcs[75]? = some Tryz.f75 := Tryz.func75
theorem body75 : Tryz.f75.body = some (codeOf Tryz.f75) := by kernel_rfl
theorem ok75 : okFuncN (E0.nd 75) Tryz.f75 = true := by kernel_rfl
theorem kr75 : E0.kr 75 = [(8, false), (9, false), (10, false)] := by kernel_rfl
/-! quadrat/float.Compare -/
theorem fn76 : E0.P.funcs[76]? = some Tryz.f76 := Tryz.func76
theorem body76 : Tryz.f76.body = some (codeOf Tryz.f76) := by kernel_rfl
theorem ok76 : okFuncN (E0.nd 76) Tryz.f76 = true := by kernel_rfl
theorem kr76 : E0.kr 76 = [(6, false), (7, false)] := by kernel_rfl
/-! quadrat/float.of -/
theorem fn53 : E0.P.funcs[53]? = some Tryz.f53 := Tryz.func53
theorem body53 : Tryz.f53.body = some (codeOf Tryz.f53) := by kernel_rfl
theorem ok53 : okFuncN (E0.nd 53) Tryz.f53 = true := by kernel_rfl
theorem kr53 : E0.kr 53 = [(2, false), (3, false)] := by kernel_rfl
/-! (quadrat/float.shape).read -/
theorem fn54 : E0.P.funcs[54]? = some Tryz.f54 := Tryz.func54
theorem body54 : Tryz.f54.body = some (codeOf Tryz.f54) := by kernel_rfl
theorem ok54 : okFuncN (E0.nd 54) Tryz.f54 = true := by kernel_rfl
theorem kr54 : E0.kr 54 = [(4, false), (5, false)] := by kernel_rfl
/-! quadrat/array.Element -/
theorem fn59 : E0.P.funcs[59]? = some Tryz.f59 := Tryz.func59
theorem body59 : Tryz.f59.body = some (codeOf Tryz.f59) := by kernel_rfl
theorem ok59 : okFuncN (E0.nd 59) Tryz.f59 = true := by kernel_rfl
theorem kr59 : E0.kr 59 = [(6, false), (7, false)] := by kernel_rfl
/-! quadrat/array.number -/
theorem fn82 : E0.P.funcs[82]? = some Tryz.f82 := Tryz.func82
theorem body82 : Tryz.f82.body = some (codeOf Tryz.f82) := by kernel_rfl
theorem ok82 : okFuncN (E0.nd 82) Tryz.f82 = true := by kernel_rfl
theorem kr82 : E0.kr 82 = [(4, false)] := by kernel_rfl
/-! quadrat/array.infinite -/
theorem fn83 : E0.P.funcs[83]? = some Tryz.f83 := Tryz.func83
theorem body83 : Tryz.f83.body = some (codeOf Tryz.f83) := by kernel_rfl
theorem ok83 : okFuncN (E0.nd 83) Tryz.f83 = true := by kernel_rfl
theorem kr83 : E0.kr 83 = [(4, false)] := by kernel_rfl
/-! slices.Min[[]int,int] -/
theorem fn84 : E0.P.funcs[84]? = some Tryz.f84 := Tryz.func84
theorem body84 : Tryz.f84.body = some (codeOf Tryz.f84) := by kernel_rfl
theorem ok84 : okFuncN (E0.nd 84) Tryz.f84 = true := by kernel_rfl
theorem kr84 : E0.kr 84 = [(2, false)] := by kernel_rfl
theorem kp84_5 : E0.kp 84 5 = ([(0, false), (3, false), (4, false)], [(3, false)]) := by kernel_rfl
theorem ow84_5 : E0.own 84 5 = [] := by kernel_rfl
theorem lp84_5 : ((E0.P.funcs[84]?).bind fun fn => fn.body.bind (findLoop 5)) = some (loopIn Tryz.f84 5) := by kernel_rfl
/-! quadrat/array.matmul$1 -/
theorem fn85 : E0.P.funcs[85]? = some Tryz.f85 := Tryz.func85
theorem body85 : Tryz.f85.body = some (codeOf Tryz.f85) := by kernel_rfl
theorem ok85 : okFuncN (E0.nd 85) Tryz.f85 = true := by kernel_rfl
theorem kr85 : E0.kr 85 = [(7, false), (8, false)] := by kernel_rfl
theorem kp85_4 : E0.kp 85 4 = ([(1, false), (3, false), (4, false), (5, false), (7, false), (9, false), (10, false), (11, false), (23, false), (24, false)], [(7, false), (11, false)]) := by kernel_rfl
theorem ow85_4 : E0.own 85 4 = [] := by kernel_rfl
theorem lp85_4 : ((E0.P.funcs[85]?).bind fun fn => fn.body.bind (findLoop 4)) = some (loopIn Tryz.f85 4) := by kernel_rfl
/-! slices.Repeat[[]int,int] -/
theorem fn86 : E0.P.funcs[86]? = some Tryz.f86 := Tryz.func86
theorem body86 : Tryz.f86.body = some (codeOf Tryz.f86) := by kernel_rfl
theorem ok86 : okFuncN (E0.nd 86) Tryz.f86 = true := by kernel_rfl
theorem kr86 : E0.kr 86 = [(4, false)] := by kernel_rfl
theorem kp86_8 : E0.kp 86 8 = ([(7, false), (8, false)], [(7, false)]) := by kernel_rfl
theorem ow86_8 : E0.own 86 8 = [] := by kernel_rfl
theorem lp86_8 : ((E0.P.funcs[86]?).bind fun fn => fn.body.bind (findLoop 8)) = some (loopIn Tryz.f86 8) := by kernel_rfl
/-! quadrat/float.FromInt -/
theorem fn87 : E0.P.funcs[87]? = some Tryz.f87 := Tryz.func87
theorem body87 : Tryz.f87.body = some (codeOf Tryz.f87) := by kernel_rfl
theorem ok87 : okFuncN (E0.nd 87) Tryz.f87 = true := by kernel_rfl
theorem kr87 : E0.kr 87 = [(6, false), (7, false), (8, false)] := by kernel_rfl
/-! quadrat/float.ToInt -/
theorem fn88 : E0.P.funcs[88]? = some Tryz.f88 := Tryz.func88
theorem body88 : Tryz.f88.body = some (codeOf Tryz.f88) := by kernel_rfl
theorem ok88 : okFuncN (E0.nd 88) Tryz.f88 = true := by kernel_rfl
theorem kr88 : E0.kr 88 = [(6, false), (7, false), (8, false)] := by kernel_rfl
/-! quadrat/float.Convert -/
theorem fn89 : E0.P.funcs[89]? = some Tryz.f89 := Tryz.func89
theorem body89 : Tryz.f89.body = some (codeOf Tryz.f89) := by kernel_rfl
theorem ok89 : okFuncN (E0.nd 89) Tryz.f89 = true := by kernel_rfl
theorem kr89 : E0.kr 89 = [(8, false), (9, false), (10, false)] := by kernel_rfl
/-! quadrat/float.two -/
theorem fn90 : E0.P.funcs[90]? = some Tryz.f90 := Tryz.func90
theorem body90 : Tryz.f90.body = some (codeOf Tryz.f90) := by kernel_rfl
theorem ok90 : okFuncN (E0.nd 90) Tryz.f90 = true := by kernel_rfl
theorem kr90 : E0.kr 90 = [(8, false), (9, false), (10, false), (11, false)] := by kernel_rfl
/-! (quadrat/float.shape).add -/
theorem fn91 : E0.P.funcs[91]? = some Tryz.f91 := Tryz.func91
theorem body91 : Tryz.f91.body = some (codeOf Tryz.f91) := by kernel_rfl
theorem ok91 : okFuncN (E0.nd 91) Tryz.f91 = true := by kernel_rfl
theorem kr91 : E0.kr 91 = [(8, false), (9, false)] := by kernel_rfl
/-! (quadrat/float.shape).quiet -/
theorem fn92 : E0.P.funcs[92]? = some Tryz.f92 := Tryz.func92
theorem body92 : Tryz.f92.body = some (codeOf Tryz.f92) := by kernel_rfl
theorem ok92 : okFuncN (E0.nd 92) Tryz.f92 = true := by kernel_rfl
theorem kr92 : E0.kr 92 = [(2, false)] := by kernel_rfl
/-! (quadrat/float.shape).infinite -/
theorem fn93 : E0.P.funcs[93]? = some Tryz.f93 := Tryz.func93
theorem body93 : Tryz.f93.body = some (codeOf Tryz.f93) := by kernel_rfl
theorem ok93 : okFuncN (E0.nd 93) Tryz.f93 = true := by kernel_rfl
theorem kr93 : E0.kr 93 = [(4, false)] := by kernel_rfl
/-! (quadrat/float.shape).zero -/
theorem fn94 : E0.P.funcs[94]? = some Tryz.f94 := Tryz.func94
theorem body94 : Tryz.f94.body = some (codeOf Tryz.f94) := by kernel_rfl
theorem ok94 : okFuncN (E0.nd 94) Tryz.f94 = true := by kernel_rfl
theorem kr94 : E0.kr 94 = [(4, false)] := by kernel_rfl
/-! math/bits.Mul64 -/
theorem fn95 : E0.P.funcs[95]? = some Tryz.f95 := Tryz.func95
theorem body95 : Tryz.f95.body = some (codeOf Tryz.f95) := by kernel_rfl
theorem ok95 : okFuncN (E0.nd 95) Tryz.f95 = true := by kernel_rfl
theorem kr95 : E0.kr 95 = [(4, false), (5, false)] := by kernel_rfl
/-! (quadrat/float.shape).round -/
theorem fn96 : E0.P.funcs[96]? = some Tryz.f96 := Tryz.func96
theorem body96 : Tryz.f96.body = some (codeOf Tryz.f96) := by kernel_rfl
theorem ok96 : okFuncN (E0.nd 96) Tryz.f96 = true := by kernel_rfl
theorem kr96 : E0.kr 96 = [(8, false), (9, false)] := by kernel_rfl
/-! (quadrat/float.number).high -/
theorem fn97 : E0.P.funcs[97]? = some Tryz.f97 := Tryz.func97
theorem body97 : Tryz.f97.body = some (codeOf Tryz.f97) := by kernel_rfl
theorem ok97 : okFuncN (E0.nd 97) Tryz.f97 = true := by kernel_rfl
theorem kr97 : E0.kr 97 = [(2, false)] := by kernel_rfl
/-! math/bits.Div64 -/
theorem fn98 : E0.P.funcs[98]? = some Tryz.f98 := Tryz.func98
theorem body98 : Tryz.f98.body = some (codeOf Tryz.f98) := by kernel_rfl
theorem ok98 : okFuncN (E0.nd 98) Tryz.f98 = true := by kernel_rfl
theorem kr98 : E0.kr 98 = [(6, false), (7, false)] := by kernel_rfl
theorem kp98_24 : E0.kp 98 24 = ([(2, false), (8, false), (9, false), (10, false), (14, false), (15, false), (16, false), (17, false), (18, false)], [(2, false), (8, false), (14, false), (15, false), (17, false), (18, false)]) := by kernel_rfl
theorem ow98_24 : E0.own 98 24 = [] := by kernel_rfl
theorem lp98_24 : ((E0.P.funcs[98]?).bind fun fn => fn.body.bind (findLoop 24)) = some (loopIn Tryz.f98 24) := by kernel_rfl
theorem kp98_17 : E0.kp 98 17 = ([(2, false), (8, false), (9, false), (10, false), (11, false), (13, false), (14, false), (15, false), (16, false)], [(2, false), (8, false), (9, false), (10, false), (11, false), (13, false), (14, false), (15, false)]) := by kernel_rfl
theorem ow98_17 : E0.own 98 17 = [] := by kernel_rfl
theorem lp98_17 : ((E0.P.funcs[98]?).bind fun fn => fn.body.bind (findLoop 17)) = some (loopIn Tryz.f98 17) := by kernel_rfl
/-! (quadrat/float.shape).place -/
theorem fn99 : E0.P.funcs[99]? = some Tryz.f99 := Tryz.func99
theorem body99 : Tryz.f99.body = some (codeOf Tryz.f99) := by kernel_rfl
theorem ok99 : okFuncN (E0.nd 99) Tryz.f99 = true := by kernel_rfl
theorem kr99 : E0.kr 99 = [(4, false)] := by kernel_rfl
/-! (quadrat/float.shape).top -/
theorem fn77 : E0.P.funcs[77]? = some Tryz.f77 := Tryz.func77
theorem body77 : Tryz.f77.body = some (codeOf Tryz.f77) := by kernel_rfl
theorem ok77 : okFuncN (E0.nd 77) Tryz.f77 = true := by kernel_rfl
theorem kr77 : E0.kr 77 = [(2, false)] := by kernel_rfl
/-! (quadrat/float.shape).least -/
theorem fn78 : E0.P.funcs[78]? = some Tryz.f78 := Tryz.func78
theorem body78 : Tryz.f78.body = some (codeOf Tryz.f78) := by kernel_rfl
theorem ok78 : okFuncN (E0.nd 78) Tryz.f78 = true := by kernel_rfl
theorem kr78 : E0.kr 78 = [(2, false)] := by kernel_rfl
/-! (quadrat/float.shape).bias -/
theorem fn79 : E0.P.funcs[79]? = some Tryz.f79 := Tryz.func79
theorem body79 : Tryz.f79.body = some (codeOf Tryz.f79) := by kernel_rfl
theorem ok79 : okFuncN (E0.nd 79) Tryz.f79 = true := by kernel_rfl
theorem kr79 : E0.kr 79 = [(2, false)] := by kernel_rfl
/-! quadrat/float.Abs -/
theorem fn80 : E0.P.funcs[80]? = some Tryz.f80 := Tryz.func80
theorem body80 : Tryz.f80.body = some (codeOf Tryz.f80) := by kernel_rfl
theorem ok80 : okFuncN (E0.nd 80) Tryz.f80 = true := by kernel_rfl
theorem kr80 : E0.kr 80 = [(4, false), (5, false)] := by kernel_rfl
/-! quadrat/float.Sqrt -/
theorem fn81 : E0.P.funcs[81]? = some Tryz.f81 := Tryz.func81
theorem body81 : Tryz.f81.body = some (codeOf Tryz.f81) := by kernel_rfl
theorem ok81 : okFuncN (E0.nd 81) Tryz.f81 = true := by kernel_rfl
theorem kr81 : E0.kr 81 = [(6, false), (7, false), (8, false)] := by kernel_rfl
/-! quadrat/float.Neg -/
theorem fn104 : E0.P.funcs[104]? = some Tryz.f104 := Tryz.func104
theorem body104 : Tryz.f104.body = some (codeOf Tryz.f104) := by kernel_rfl
theorem ok104 : okFuncN (E0.nd 104) Tryz.f104 = true := by kernel_rfl
theorem kr104 : E0.kr 104 = [(4, false), (5, false)] := by kernel_rfl
/-! math/bits.Mul -/
theorem fn105 : E0.P.funcs[105]? = some Tryz.f105 := Tryz.func105
theorem body105 : Tryz.f105.body = some (codeOf Tryz.f105) := by kernel_rfl
theorem ok105 : okFuncN (E0.nd 105) Tryz.f105 = true := by kernel_rfl
theorem kr105 : E0.kr 105 = [(4, false), (5, false)] := by kernel_rfl
/-! (quadrat/float.exact).right -/
theorem fn106 : E0.P.funcs[106]? = some Tryz.f106 := Tryz.func106
theorem body106 : Tryz.f106.body = some (codeOf Tryz.f106) := by kernel_rfl
theorem ok106 : okFuncN (E0.nd 106) Tryz.f106 = true := by kernel_rfl
theorem kr106 : E0.kr 106 = [(4, false), (5, false)] := by kernel_rfl
theorem kp106_3 : E0.kp 106 3 = ([(1, false), (6, false), (7, false), (8, false), (9, false)], [(1, false), (7, false), (8, false), (9, false)]) := by kernel_rfl
theorem ow106_3 : E0.own 106 3 = [] := by kernel_rfl
theorem lp106_3 : ((E0.P.funcs[106]?).bind fun fn => fn.body.bind (findLoop 3)) = some (loopIn Tryz.f106 3) := by kernel_rfl
/-! quadrat/float.away -/
theorem fn107 : E0.P.funcs[107]? = some Tryz.f107 := Tryz.func107
theorem body107 : Tryz.f107.body = some (codeOf Tryz.f107) := by kernel_rfl
theorem ok107 : okFuncN (E0.nd 107) Tryz.f107 = true := by kernel_rfl
theorem kr107 : E0.kr 107 = [(8, false)] := by kernel_rfl
/-! (quadrat/float.shape).none -/
theorem fn108 : E0.P.funcs[108]? = some Tryz.f108 := Tryz.func108
theorem body108 : Tryz.f108.body = some (codeOf Tryz.f108) := by kernel_rfl
theorem ok108 : okFuncN (E0.nd 108) Tryz.f108 = true := by kernel_rfl
theorem kr108 : E0.kr 108 = [(4, false)] := by kernel_rfl
/-! (quadrat/float.shape).sum -/
theorem fn109 : E0.P.funcs[109]? = some Tryz.f109 := Tryz.func109
theorem body109 : Tryz.f109.body = some (codeOf Tryz.f109) := by kernel_rfl
theorem ok109 : okFuncN (E0.nd 109) Tryz.f109 = true := by kernel_rfl
theorem kr109 : E0.kr 109 = [(8, false), (9, false)] := by kernel_rfl
/-! (quadrat/float.shape).pack -/
theorem fn110 : E0.P.funcs[110]? = some Tryz.f110 := Tryz.func110
theorem body110 : Tryz.f110.body = some (codeOf Tryz.f110) := by kernel_rfl
theorem ok110 : okFuncN (E0.nd 110) Tryz.f110 = true := by kernel_rfl
theorem kr110 : E0.kr 110 = [(8, false)] := by kernel_rfl
/-! (quadrat/float.exact).long -/
theorem fn111 : E0.P.funcs[111]? = some Tryz.f111 := Tryz.func111
theorem body111 : Tryz.f111.body = some (codeOf Tryz.f111) := by kernel_rfl
theorem ok111 : okFuncN (E0.nd 111) Tryz.f111 = true := by kernel_rfl
theorem kr111 : E0.kr 111 = [(2, false)] := by kernel_rfl
/-! (quadrat/float.shape).greatest -/
theorem fn112 : E0.P.funcs[112]? = some Tryz.f112 := Tryz.func112
theorem body112 : Tryz.f112.body = some (codeOf Tryz.f112) := by kernel_rfl
theorem ok112 : okFuncN (E0.nd 112) Tryz.f112 = true := by kernel_rfl
theorem kr112 : E0.kr 112 = [(4, false)] := by kernel_rfl
/-! math/bits.LeadingZeros64 -/
theorem fn113 : E0.P.funcs[113]? = some Tryz.f113 := Tryz.func113
theorem body113 : Tryz.f113.body = some (codeOf Tryz.f113) := by kernel_rfl
theorem ok113 : okFuncN (E0.nd 113) Tryz.f113 = true := by kernel_rfl
theorem kr113 : E0.kr 113 = [(2, false)] := by kernel_rfl
/-! quadrat/float.signed -/
theorem fn100 : E0.P.funcs[100]? = some Tryz.f100 := Tryz.func100
theorem body100 : Tryz.f100.body = some (codeOf Tryz.f100) := by kernel_rfl
theorem ok100 : okFuncN (E0.nd 100) Tryz.f100 = true := by kernel_rfl
theorem kr100 : E0.kr 100 = [(6, false), (7, false)] := by kernel_rfl
/-! quadrat/float.Abs$1 -/
theorem fn101 : E0.P.funcs[101]? = some Tryz.f101 := Tryz.func101
theorem body101 : Tryz.f101.body = some (codeOf Tryz.f101) := by kernel_rfl
theorem ok101 : okFuncN (E0.nd 101) Tryz.f101 = true := by kernel_rfl
theorem kr101 : E0.kr 101 = [(2, false)] := by kernel_rfl
/-! quadrat/float.left -/
theorem fn102 : E0.P.funcs[102]? = some Tryz.f102 := Tryz.func102
theorem body102 : Tryz.f102.body = some (codeOf Tryz.f102) := by kernel_rfl
theorem ok102 : okFuncN (E0.nd 102) Tryz.f102 = true := by kernel_rfl
theorem kr102 : E0.kr 102 = [(4, false), (5, false)] := by kernel_rfl
/-! quadrat/float.root -/
theorem fn103 : E0.P.funcs[103]? = some Tryz.f103 := Tryz.func103
theorem body103 : Tryz.f103.body = some (codeOf Tryz.f103) := by kernel_rfl
theorem ok103 : okFuncN (E0.nd 103) Tryz.f103 = true := by kernel_rfl
theorem kr103 : E0.kr 103 = [(4, false), (5, false)] := by kernel_rfl
theorem kp103_2 : E0.kp 103 2 = ([(0, false), (1, false), (4, false), (6, false)], [(0, false), (1, false), (4, false)]) := by kernel_rfl
theorem ow103_2 : E0.own 103 2 = [] := by kernel_rfl
theorem lp103_2 : ((E0.P.funcs[103]?).bind fun fn => fn.body.bind (findLoop 2)) = some (loopIn Tryz.f103 2) := by kernel_rfl
/-! quadrat/float.Neg$1 -/
theorem fn114 : E0.P.funcs[114]? = some Tryz.f114 := Tryz.func114
theorem body114 : Tryz.f114.body = some (codeOf Tryz.f114) := by kernel_rfl
theorem ok114 : okFuncN (E0.nd 114) Tryz.f114 = true := by kernel_rfl
theorem kr114 : E0.kr 114 = [(2, false)] := by kernel_rfl
/-! math/bits.Mul32 -/
theorem fn115 : E0.P.funcs[115]? = some Tryz.f115 := Tryz.func115
theorem body115 : Tryz.f115.body = some (codeOf Tryz.f115) := by kernel_rfl
theorem ok115 : okFuncN (E0.nd 115) Tryz.f115 = true := by kernel_rfl
theorem kr115 : E0.kr 115 = [(4, false), (5, false)] := by kernel_rfl
/-! math/bits.Len64 -/
theorem fn118 : E0.P.funcs[118]? = some Tryz.f118 := Tryz.func118
theorem body118 : Tryz.f118.body = some (codeOf Tryz.f118) := by kernel_rfl
theorem ok118 : okFuncN (E0.nd 118) Tryz.f118 = true := by kernel_rfl
theorem kr118 : E0.kr 118 = [(2, false)] := by kernel_rfl
end Go.Proofs.YtnbijiopcgfmfaaGreat.Tev
/- Plain arithmetic that the pure statements share: sums that are not wrapped, counts of triples, products. -/
set_option linter.unusedVariables false
namespace Go.Proofs.YtnbijiopcgfmfaaGreat.Q
open Go
set_option linter.unusedSectionVars false
set_option linter.unusedSimpArgs false

def mn (x y : Int) : Int := if y < x then y else x
def mx (x y : Int) : Int := if y > x then y else x
theorem w64 {x : Int} (h1 : -9223372036854775808 ≤ x) (h2 : x ≤ 9223372036854775807) : IntKind.i64.wrap x = x := by
  rw [IntKind.wrap_i64]; omega
theorem wrap_in (x : Int) : -9223372036854775808 ≤ IntKind.i64.wrap x ∧ IntKind.i64.wrap x ≤ 9223372036854775807 := by
  rw [IntKind.wrap_i64]; omega

theorem mul_bd {a b A B : Int} (h1 : -A ≤ a) (h2 : a ≤ A) (h3 : -B ≤ b) (h4 : b ≤ B) : -(A * B) ≤ a * b ∧ a * b ≤ A * B := by
  have hA : 0 ≤ A := by omega
  have hB : 0 ≤ B := by omega
  have e : (a * b).natAbs ≤ (A * B).natAbs := by
    rw [Int.natAbs_mul, Int.natAbs_mul]
    exact Nat.mul_le_mul (by omega) (by omega)
  have : 0 ≤ A * B := Int.mul_nonneg hA hB
  omega

theorem mul_lt_of {a b c : Int} (h : a < b) (hc : 0 < c) : a * c < b * c := Int.mul_lt_mul_of_pos_right h hc

/-- How many members a triple has, as the code reckons it. -/
def cnt (lo hi st : Int) : Int := mx 0 (Int.tdiv (hi - lo + st) st)

theorem tdiv_pos {x y : Int} (hx : 0 ≤ x) (hy : 0 < y) : 0 ≤ Int.tdiv x y ∧ Int.tdiv x y * y ≤ x ∧ x < Int.tdiv x y * y + y := by
  rw [Int.tdiv_eq_ediv_of_nonneg hx]
  have h1 := Int.emod_nonneg x (by omega : y ≠ 0)
  have h2 := Int.emod_lt_of_pos x hy
  have h3 := Int.emod_add_mul_ediv x y
  have h4 : x / y * y = y * (x / y) := Int.mul_comm _ _
  exact ⟨Int.ediv_nonneg hx (by omega), by omega, by omega⟩

theorem tdiv_nonpos {x y : Int} (hx : x ≤ 0) (hy : 0 < y) : Int.tdiv x y ≤ 0 := by
  have : Int.tdiv x y = -(Int.tdiv (-x) y) := by rw [Int.neg_tdiv, Int.neg_neg]
  rw [this]
  have := (tdiv_pos (x := -x) (by omega) hy).1
  omega
theorem tdiv_bd (x y : Int) : -(x.natAbs : Int) ≤ Int.tdiv x y ∧ Int.tdiv x y ≤ x.natAbs := by
  have : (Int.tdiv x y).natAbs ≤ x.natAbs := by rw [Int.natAbs_tdiv]; exact Nat.div_le_self _ _
  omega

theorem cnt_pos {lo hi st : Int} (hs : 0 < st) : 0 ≤ cnt lo hi st ∧ hi < lo + cnt lo hi st * st ∧ (0 < cnt lo hi st → lo + (cnt lo hi st - 1) * st ≤ hi) := by
  unfold cnt
  rcases Int.lt_or_le (hi - lo + st) 0 with h | h
  · have h1 := tdiv_nonpos (x := hi - lo + st) (y := st) (by omega) hs
    have e : mx 0 (Int.tdiv (hi - lo + st) st) = 0 := by unfold mx; split <;> omega
    rw [e]
    simp
    omega
  · obtain ⟨h1, h2, h3⟩ := tdiv_pos h hs
    have e : mx 0 (Int.tdiv (hi - lo + st) st) = Int.tdiv (hi - lo + st) st := by unfold mx; split <;> omega
    rw [e, Int.sub_mul, Int.one_mul]
    exact ⟨h1, by omega, fun _ => by omega⟩

theorem cnt_neg {lo hi st : Int} (hs : st < 0) : cnt lo hi st = cnt (-lo) (-hi) (-st) := by
  unfold cnt
  have : Int.tdiv (hi - lo + st) st = Int.tdiv (-hi - -lo + -st) (-st) := by
    rw [Int.tdiv_neg, show (-hi - -lo + -st) = -(hi - lo + st) from by omega, Int.neg_tdiv, Int.neg_neg]
  rw [this]

theorem cnt_neg' {lo hi st : Int} (hs : st < 0) : 0 ≤ cnt lo hi st ∧ lo + cnt lo hi st * st < hi ∧ (0 < cnt lo hi st → hi ≤ lo + (cnt lo hi st - 1) * st) := by
  rw [cnt_neg hs]
  have h := cnt_pos (lo := -lo) (hi := -hi) (st := -st) (by omega)
  rw [Int.mul_neg, Int.mul_neg] at h
  exact ⟨h.1, by omega, fun h0 => by have := h.2.2 h0; omega⟩

/-- Any turn's member lies between the two ends. -/
theorem cnt_in {lo hi st m : Int} (hs : st ≠ 0) (h0 : 0 ≤ m) (h1 : m < cnt lo hi st) : (0 < st → lo ≤ lo + m * st ∧ lo + m * st ≤ hi) ∧ (st < 0 → lo + m * st ≤ lo ∧ hi ≤ lo + m * st) := by
  constructor
  · intro hp
    have h := (cnt_pos (lo := lo) (hi := hi) hp).2.2 (by omega)
    have a := Int.mul_nonneg h0 (by omega : 0 ≤ st)
    have b := Int.mul_le_mul_of_nonneg_right (show m ≤ cnt lo hi st - 1 by omega) (show 0 ≤ st by omega)
    omega
  · intro hn
    have h := (cnt_neg' (lo := lo) (hi := hi) hn).2.2 (by omega)
    have a := Int.mul_nonneg h0 (by omega : 0 ≤ -st)
    have b := Int.mul_le_mul_of_nonneg_right (show m ≤ cnt lo hi st - 1 by omega) (show 0 ≤ -st by omega)
    rw [Int.mul_neg] at a
    rw [Int.mul_neg, Int.mul_neg] at b
    omega

theorem cnt_nonneg (lo hi st : Int) : 0 ≤ cnt lo hi st := by unfold cnt mx; split <;> omega

/-- A count is no greater than the way, and one. -/
theorem cnt_le {lo hi st D : Int} (hs : st ≠ 0) (h1 : -D ≤ hi - lo) (h2 : hi - lo ≤ D) : cnt lo hi st ≤ D + 1 := by
  have hD : 0 ≤ D := by omega
  rcases Int.lt_or_le 0 (cnt lo hi st) with h0 | h0
  · rcases Int.lt_or_gt_of_ne hs with hn | hp
    · have h := (cnt_neg' (lo := lo) (hi := hi) hn).2.2 h0
      have b := Int.mul_le_mul_of_nonneg_left (show 1 ≤ -st by omega) (show 0 ≤ cnt lo hi st - 1 by omega)
      rw [Int.mul_neg] at b
      omega
    · have h := (cnt_pos (lo := lo) (hi := hi) hp).2.2 h0
      have b := Int.mul_le_mul_of_nonneg_left (show 1 ≤ st by omega) (show 0 ≤ cnt lo hi st - 1 by omega)
      omega
  · omega
/-- A triple of numbers that the document takes. -/
def okT (a b s : Int) : Prop := (-2147483648 ≤ a ∧ a ≤ 2147483648) ∧ (-2147483648 ≤ b ∧ b ≤ 2147483648) ∧ (-2147483648 ≤ s ∧ s ≤ 2147483648) ∧ s ≠ 0
instance (a b s : Int) : Decidable (okT a b s) := by unfold okT; infer_instance
/-- The bounds of a count of a triple that is taken. -/
theorem cnt_bd {a b s : Int} (h : okT a b s) : 0 ≤ cnt a b s ∧ cnt a b s ≤ 4294967297 := by
  obtain ⟨ha, hb, hs, h0⟩ := h
  exact ⟨cnt_nonneg _ _ _, by have := cnt_le (lo := a) (hi := b) (st := s) (D := 4294967296) h0 (by omega) (by omega); omega⟩
/-- How far the last member lies, and the next one. -/
theorem cnt_step {a b s : Int} (h : okT a b s) : -6442450944 ≤ cnt a b s * s ∧ cnt a b s * s ≤ 6442450944 ∧ -6442450944 ≤ (cnt a b s - 1) * s ∧ (cnt a b s - 1) * s ≤ 6442450944 := by
  have hb := cnt_bd h
  obtain ⟨ha, hb', hs, h0⟩ := h
  have e : (cnt a b s - 1) * s = cnt a b s * s - s := by rw [Int.sub_mul, Int.one_mul]
  by_cases hc : 0 < cnt a b s
  · have := cnt_in (lo := a) (hi := b) (st := s) (m := cnt a b s - 1) h0 (by omega) (by omega)
    rw [e] at this ⊢
    rcases Int.lt_trichotomy s 0 with hs0 | hs0 | hs0
    · have := this.2 hs0
      omega
    · omega
    · have := this.1 hs0
      omega
  · have hz : cnt a b s = 0 := by omega
    rw [hz]
    omega

/-! Extents, and what they make. -/
/-- Are extents right by themselves? -/
def exts (E : List Int) : Prop := E.length ≤ 3 ∧ ∀ e ∈ E, 0 ≤ e ∧ e ≤ 4000
instance (E : List Int) : Decidable (exts E) := by unfold exts; exact inferInstance
def pr : List Int → Int
  | [] => 1
  | e :: E => e * pr E
/-- How many elements extents have; -1: they are none. -/
def sizeQ (E : List Int) : Int := if exts E ∧ pr E ≤ 4000 then pr E else -1
theorem foldl_pr : ∀ (E : List Int) (a : Int), E.foldl (· * ·) a = a * pr E
  | [], a => by simp [pr]
  | e :: E, a => by rw [List.foldl_cons, foldl_pr E, pr, Int.mul_assoc]
theorem pr_nonneg : ∀ {E : List Int}, (∀ e ∈ E, 0 ≤ e) → 0 ≤ pr E
  | [], _ => by simp [pr]
  | e :: E, h => by
    have h1 := h e (by simp)
    have h2 := pr_nonneg (E := E) (fun x hx => h x (by simp [hx]))
    rw [pr]; exact Int.mul_nonneg h1 h2
theorem pr_pos : ∀ {E : List Int}, (∀ e ∈ E, 1 ≤ e) → 1 ≤ pr E
  | [], _ => by simp [pr]
  | e :: E, h => by
    have h1 := h e (by simp)
    have h2 := pr_pos (E := E) (fun x hx => h x (by simp [hx]))
    have := Int.mul_le_mul h1 h2 (by omega) (by omega)
    rw [pr]
    omega
theorem pr_zero : ∀ {E : List Int}, pr E = 0 → ∃ e ∈ E, e = 0
  | [], h => by simp [pr] at h
  | e :: E, h => by
    rw [pr] at h
    rcases Int.mul_eq_zero.1 h with h | h
    · exact ⟨e, by simp, h⟩
    · obtain ⟨x, hx, hz⟩ := pr_zero h
      exact ⟨x, by simp [hx], hz⟩
theorem pr_of_zero : ∀ {E : List Int}, (0 : Int) ∈ E → pr E = 0
  | [], h => by simp at h
  | x :: E, h => by
    rw [pr]
    rcases List.mem_cons.1 h with rfl | h
    · simp
    · rw [pr_of_zero h, Int.mul_zero]
theorem exts_pos {E : List Int} (h : exts E) (h0 : pr E ≠ 0) : ∀ e ∈ E, 1 ≤ e := by
  intro e he
  have := h.2 e he
  refine Decidable.byContradiction fun hc => h0 ?_
  have hz : e = 0 := by omega
  subst hz
  exact pr_of_zero he
theorem size_none {E : List Int} : sizeQ E < 0 ↔ ¬ (exts E ∧ pr E ≤ 4000) := by
  unfold sizeQ
  constructor
  · intro h hc
    rw [if_pos hc] at h
    have := pr_nonneg fun e he => (hc.1.2 e he).1
    omega
  · intro h
    rw [if_neg h]
    omega
theorem size_some {E : List Int} (h : exts E ∧ pr E ≤ 4000) : sizeQ E = pr E := if_pos h
theorem size_bd (E : List Int) : -1 ≤ sizeQ E ∧ sizeQ E ≤ 4000 := by
  unfold sizeQ
  split
  · rename_i h; have := pr_nonneg fun e he => (h.1.2 e he).1; omega
  · omega
theorem mul_one_le {a b c : Int} (ha : 0 ≤ a) (hb : 1 ≤ b) (h : a * b ≤ c) : a ≤ c := by
  have := Int.mul_le_mul_of_nonneg_left hb ha
  omega
def B4 : Nat → Int
  | 0 => 1
  | 1 => 4000
  | 2 => 16000000
  | _ => 64000000000
theorem B4_le (n : Nat) : B4 n ≤ 64000000000 := by unfold B4; split <;> omega
theorem B4_succ {n : Nat} (hn : n < 3) : B4 n * 4000 = B4 (n + 1) := by
  have : n = 0 ∨ n = 1 ∨ n = 2 := by omega
  rcases this with rfl | rfl | rfl <;> rfl
theorem B4_step {n : Nat} {a e : Int} (hn : n < 3) (h0 : 0 ≤ a) (h1 : a ≤ B4 n) (e0 : 0 ≤ e) (e1 : e ≤ 4000) : 0 ≤ a * e ∧ a * e ≤ B4 (n + 1) := by
  refine ⟨Int.mul_nonneg h0 e0, ?_⟩
  rw [← B4_succ hn]
  exact Int.mul_le_mul h1 e1 e0 (by unfold B4; split <;> omega)

/-! Where elements lie. -/
def lows : List Int → List Int → Int
  | n :: E, s :: S => mn (s * (n - 1)) 0 + lows E S
  | _, _ => 0
def highs : List Int → List Int → Int
  | n :: E, s :: S => mx (s * (n - 1)) 0 + highs E S
  | _, _ => 0
def nearS (n : Int) : Prop := -2147483648 ≤ n ∧ n ≤ 2147483648
instance (n : Int) : Decidable (nearS n) := by unfold nearS; exact inferInstance
theorem mn_bd {x A : Int} (h1 : -A ≤ x) (h2 : x ≤ A) (hA : 0 ≤ A) : -A ≤ mn x 0 ∧ mn x 0 ≤ 0 := by unfold mn; split <;> omega
theorem mx_bd {x A : Int} (h1 : -A ≤ x) (h2 : x ≤ A) (hA : 0 ≤ A) : 0 ≤ mx x 0 ∧ mx x 0 ≤ A := by unfold mx; split <;> omega
theorem way_bd {s n : Int} (hs : nearS s) (h0 : 0 ≤ n) (h1 : n ≤ 4000) : -9000000000000 ≤ s * (n - 1) ∧ s * (n - 1) ≤ 9000000000000 := by
  unfold nearS at hs
  have := mul_bd (A := 2147483648) (B := 4000) hs.1 hs.2 (show -4000 ≤ n - 1 by omega) (by omega)
  omega
/-- A descriptor is valid. -/
def okD (base : Int) (E S : List Int) : Prop := exts E ∧ pr E ≤ 4000 ∧ S.length = E.length ∧ 0 ≤ base ∧ (∀ s ∈ S, nearS s) ∧ (pr E = 0 ∨ (base ≤ 2147483648 ∧ 0 ≤ base + lows E S ∧ base + highs E S ≤ 2147483648))
instance (base : Int) (E S : List Int) : Decidable (okD base E S) := by unfold okD; exact inferInstance

/-- One row of places, moved j ways on. -/
def rowW (out : List Int) (s j : Int) : List Int := out.map fun x => IntKind.i64.wrap (x + IntKind.i64.wrap (j * s))
def dimW (out : List Int) (s : Int) (d : Nat) (j : Int) : List Int := (List.range d).flatMap fun t : Nat => rowW out s (j + t)
def plcW : List Int → List Int → List Int → List Int
  | n :: E, s :: S, out => plcW E S (dimW out s n.toNat 0)
  | _, _, out => out
theorem dimW_zero (out : List Int) (s j : Int) : dimW out s 0 j = [] := by simp [dimW]
theorem dimW_succ (out : List Int) (s : Int) (d : Nat) (j : Int) : dimW out s (d + 1) j = rowW out s j ++ dimW out s d (j + 1) := by
  unfold dimW
  rw [List.range_succ_eq_map, List.flatMap_cons, List.flatMap_map]
  congr 1
  · simp
  · congr 1
    funext t
    congr 1
    push_cast
    omega
theorem rowW_length (out : List Int) (s j : Int) : (rowW out s j).length = out.length := by simp [rowW]
theorem dimW_length (out : List Int) (s : Int) : ∀ (d : Nat) (j : Int), (dimW out s d j).length = d * out.length
  | 0, j => by simp [dimW]
  | d + 1, j => by rw [dimW_succ, List.length_append, rowW_length, dimW_length out s d, Nat.succ_mul]; omega
theorem mem_dimW {out : List Int} {s y : Int} {d : Nat} : y ∈ dimW out s d 0 ↔ ∃ x ∈ out, ∃ t : Nat, t < d ∧ y = IntKind.i64.wrap (x + IntKind.i64.wrap ((t : Int) * s)) := by
  unfold dimW rowW
  simp only [List.mem_flatMap, List.mem_range, List.mem_map, Int.zero_add]
  constructor
  · rintro ⟨t, ht, x, hx, rfl⟩
    exact ⟨x, hx, t, ht, rfl⟩
  · rintro ⟨x, hx, t, ht, rfl⟩
    exact ⟨t, ht, x, hx, rfl⟩
theorem way_t {s n t : Int} (hs : nearS s) (h0 : 0 ≤ t) (h1 : t ≤ n - 1) (h2 : n ≤ 4000) : -9000000000000 ≤ t * s ∧ t * s ≤ 9000000000000 ∧ mn (s * (n - 1)) 0 ≤ t * s ∧ t * s ≤ mx (s * (n - 1)) 0 := by
  have hb := mul_bd (a := t) (b := s) (A := 4000) (B := 2147483648) (by omega) (by omega) hs.1 hs.2
  refine ⟨by omega, by omega, ?_⟩
  by_cases hp : 0 ≤ s
  · have h3 : 0 ≤ t * s := Int.mul_nonneg h0 hp
    have h4 : t * s ≤ (n - 1) * s := Int.mul_le_mul_of_nonneg_right h1 hp
    rw [Int.mul_comm s]
    unfold mn mx
    constructor <;> split <;> omega
  · have h3 : t * s ≤ 0 := Int.mul_nonpos_of_nonneg_of_nonpos h0 (by omega)
    have h4 : (n - 1) * s ≤ t * s := Int.mul_le_mul_of_nonpos_right h1 (by omega)
    rw [Int.mul_comm s]
    unfold mn mx
    constructor <;> split <;> omega
/-- Places by the ends. -/
theorem all_plc (M : Int) : ∀ (E S out : List Int) (d : Nat), d ≤ 3 → E.length ≤ d → S.length = E.length → (∀ e ∈ E, 1 ≤ e ∧ e ≤ 4000) → (∀ s ∈ S, nearS s) →
    (∀ x ∈ out, -100000000000000 + 10000000000000 * (d : Int) ≤ x ∧ x ≤ 100000000000000 - 10000000000000 * (d : Int)) →
    ((∀ x ∈ plcW E S out, 0 ≤ x ∧ x ≤ M) ↔ (∀ x ∈ out, 0 ≤ x + lows E S ∧ x + highs E S ≤ M))
  | [], S, out, d, _, _, _, _, _, _ => by simp [plcW, lows, highs]
  | _ :: _, [], _, _, _, _, h, _, _, _ => by simp at h
  | n :: E, s :: S, out, 0, _, hl, _, _, _, _ => by simp at hl
  | n :: E, s :: S, out, d + 1, hd, hl, hS, hE, hN, ho => by
    have hn := hE n (by simp)
    have hs := hN s (by simp)
    have hy : ∀ x ∈ out, ∀ t : Nat, t < n.toNat → IntKind.i64.wrap (x + IntKind.i64.wrap ((t : Int) * s)) = x + t * s := by
      intro x hx t ht
      have h1 := ho x hx
      have h2 := way_t hs (t := t) (n := n) (by omega) (by omega) hn.2
      rw [w64 (x := (t : Int) * s) (by omega) (by omega), w64 (by omega) (by omega)]
    rw [plcW, all_plc M E S (dimW out s n.toNat 0) d (by omega) (by simpa using hl) (by simpa using hS) (fun e he => hE e (by simp [he])) (fun e he => hN e (by simp [he])) (by
      intro y hm
      obtain ⟨x, hx, t, ht, rfl⟩ := mem_dimW.1 hm
      rw [hy x hx t ht]
      have h1 := ho x hx
      have h2 := way_t hs (t := t) (n := n) (by omega) (by omega) hn.2
      omega)]
    constructor
    · intro h x hx
      have a := h _ (mem_dimW.2 ⟨x, hx, 0, by omega, rfl⟩)
      have b := h _ (mem_dimW.2 ⟨x, hx, n.toNat - 1, by omega, rfl⟩)
      rw [hy x hx 0 (by omega)] at a
      rw [hy x hx (n.toNat - 1) (by omega), show ((n.toNat - 1 : Nat) : Int) = n - 1 from by omega, Int.mul_comm] at b
      rw [show (((0 : Nat) : Int) * s) = 0 from by simp] at a
      have l : lows (n :: E) (s :: S) = mn (s * (n - 1)) 0 + lows E S := rfl
      have g : highs (n :: E) (s :: S) = mx (s * (n - 1)) 0 + highs E S := rfl
      rw [l, g]
      unfold mn mx
      constructor <;> split <;> omega
    · intro h y hm
      obtain ⟨x, hx, t, ht, rfl⟩ := mem_dimW.1 hm
      rw [hy x hx t ht]
      have h2 := way_t hs (t := t) (n := n) (by omega) (by omega) hn.2
      have a := h x hx
      have l : lows (n :: E) (s :: S) = mn (s * (n - 1)) 0 + lows E S := rfl
      have g : highs (n :: E) (s :: S) = mx (s * (n - 1)) 0 + highs E S := rfl
      rw [l, g] at a
      omega
theorem mem_plc {b : Int} (h0 : -9223372036854775808 ≤ b) (h1 : b ≤ 9223372036854775807) : ∀ (E S out : List Int), (∀ e ∈ E, 1 ≤ e) → b ∈ out → b ∈ plcW E S out
  | [], S, out, _, h => by simpa [plcW] using h
  | n :: E, [], out, _, h => by simpa [plcW] using h
  | n :: E, s :: S, out, hE, h => by
    rw [plcW]
    have hn := hE n (by simp)
    refine mem_plc h0 h1 E S _ (fun e he => hE e (by simp [he])) (mem_dimW.2 ⟨b, h, 0, by omega, ?_⟩)
    rw [show (((0 : Nat) : Int) * s) = 0 from by simp, w64 (x := 0) (by omega) (by omega), Int.add_zero, w64 h0 h1]
theorem plcW_length : ∀ (E S out : List Int), S.length = E.length → (∀ e ∈ E, 0 ≤ e) → ((plcW E S out).length : Int) = out.length * pr E
  | [], S, out, _, _ => by simp [plcW, pr]
  | n :: E, [], out, h, _ => by simp at h
  | n :: E, s :: S, out, hS, hE => by
    have hn := hE n (by simp)
    rw [plcW, plcW_length E S _ (by simpa using hS) (fun e he => hE e (by simp [he])), dimW_length, pr]
    push_cast
    rw [show (n.toNat : Int) = n from by omega, Int.mul_comm n, Int.mul_assoc]
theorem rowW_zero {out : List Int} (s : Int) (h : ∀ x ∈ out, -9223372036854775808 ≤ x ∧ x ≤ 9223372036854775807) : rowW out s 0 = out := by
  unfold rowW
  rw [Int.zero_mul, w64 (x := 0) (by omega) (by omega)]
  refine (List.map_congr_left fun x hx => ?_).trans (List.map_id _)
  have := h x hx
  rw [Int.add_zero, w64 this.1 this.2]; rfl
theorem rowW_in {out : List Int} {s j y : Int} (h : y ∈ rowW out s j) : -9223372036854775808 ≤ y ∧ y ≤ 9223372036854775807 := by
  unfold rowW at h
  obtain ⟨x, _, rfl⟩ := List.mem_map.1 h
  exact wrap_in _
theorem dimW_in {out : List Int} {s j y : Int} {d : Nat} (h : y ∈ dimW out s d j) : -9223372036854775808 ≤ y ∧ y ≤ 9223372036854775807 := by
  unfold dimW at h
  obtain ⟨t, _, h⟩ := List.mem_flatMap.1 h
  exact rowW_in h
/-- The list of places. -/
def plcR (b : Int) (E S : List Int) : List Int := if pr E = 0 then [] else plcW E S [b]
theorem plcR_length {b : Int} {E S : List Int} (hS : S.length = E.length) (hE : exts E) : ((plcR b E S).length : Int) = pr E := by
  unfold plcR
  by_cases h : pr E = 0
  · rw [if_pos h, h]; rfl
  · rw [if_neg h, plcW_length E S _ hS (fun e he => (hE.2 e he).1)]
    simp
theorem all_plcR {b : Int} {E S : List Int} (hE : exts E) (hS : S.length = E.length) (hN : ∀ s ∈ S, nearS s) (h0 : 0 ≤ b) (h1 : b ≤ 9223372036854775807) :
    (∀ x ∈ plcR b E S, 0 ≤ x ∧ x ≤ 2147483648) ↔ (pr E = 0 ∨ (b ≤ 2147483648 ∧ 0 ≤ b + lows E S ∧ b + highs E S ≤ 2147483648)) := by
  unfold plcR
  by_cases h : pr E = 0
  · simp [h]
  · rw [if_neg h]
    have hp := exts_pos hE h
    have key := fun (hb : b ≤ 2147483648) => all_plc 2147483648 E S [b] 3 (by omega) hE.1 hS (fun e he => ⟨hp e he, (hE.2 e he).2⟩) hN (by
      intro x hx
      simp only [List.mem_cons, List.not_mem_nil, or_false] at hx
      subst hx
      omega)
    constructor
    · intro ha
      have hb := (ha b (mem_plc (by omega) h1 E S [b] hp (by simp))).2
      exact .inr ⟨hb, by simpa using (key hb).1 ha⟩
    · rintro (hz | ⟨hb, hc⟩)
      · exact absurd hz h
      · exact (key hb).2 (by simpa using hc)
/-- The places of a descriptor, and the error. -/
def placesQ (b : Int) (E S : List Int) : List Int := if okD b E S then plcR b E S else []
def errD (b : Int) (E S : List Int) : Int := if okD b E S then 0 else 2
theorem errD_ok {b : Int} {E S : List Int} : errD b E S = 0 ↔ okD b E S := by unfold errD; split <;> simp_all
theorem placesQ_len (b : Int) (E S : List Int) : (placesQ b E S).length ≤ 4000 := by
  unfold placesQ
  split
  · rename_i h
    have := plcR_length (b := b) h.2.2.1 h.1
    have := h.2.1
    omega
  · simp
theorem placesQ_bd {b : Int} {E S : List Int} {x : Int} (hb : b ≤ 9223372036854775807) (h : x ∈ placesQ b E S) : 0 ≤ x ∧ x ≤ 2147483648 := by
  unfold placesQ at h
  split at h
  · rename_i hd
    exact (all_plcR hd.1 hd.2.2.1 hd.2.2.2.2.1 hd.2.2.2.1 hb).2 hd.2.2.2.2.2 x h
  · simp at h
theorem placesQ_nil {b : Int} {E S : List Int} (h : okD b E S) : placesQ b E S = [] ↔ pr E = 0 := by
  have h1 := plcR_length (b := b) h.2.2.1 h.1
  unfold placesQ
  rw [if_pos h]
  constructor
  · intro e; rw [e] at h1; simpa using h1.symm
  · intro e; exact List.length_eq_zero_iff.1 (by omega)
/-- Whether two descriptors have a place in common. -/
def shareQ (a : Int) (E S : List Int) (b : Int) (E' S' : List Int) : Bool := decide (okD a E S ∧ okD b E' S') && (placesQ b E' S').any fun x => (placesQ a E S).contains x
def errDD (a : Int) (E S : List Int) (b : Int) (E' S' : List Int) : Int := if okD a E S ∧ okD b E' S' then 0 else 2
def sizeD (b : Int) (E S : List Int) : Int := if okD b E S then pr E else 0
/-- The strides of an array that lies from 0 on. -/
def wholeS : Int → List Int → List Int
  | _, [] => []
  | a, n :: r => a :: wholeS (a * n) r
theorem wholeS_len : ∀ (a : Int) (E : List Int), (wholeS a E).length = E.length
  | _, [] => rfl
  | a, n :: r => by simp [wholeS, wholeS_len (a * n) r]
def okE (E : List Int) : Prop := exts E ∧ pr E ≤ 4000
instance (E : List Int) : Decidable (okE E) := by unfold okE; infer_instance
def wholeE (E : List Int) : List Int := if okE E then E else []
def wholeT (E : List Int) : List Int := if okE E then wholeS 1 E else []
def errE (E : List Int) : Int := if okE E then 0 else 2
theorem size_neg {E : List Int} : sizeQ E < 0 ↔ ¬ okE E := size_none
end Go.Proofs.YtnbijiopcgfmfaaGreat.Q
/- A function that begins by asking whether its slice is nil (slices.Clone): both ways lead to the same answer. -/
namespace Go.Proofs.YtnbijiopcgfmfaaGreat.Tev
open Go Go.RowKit
set_option linter.unusedSectionVars false
set_option linter.unusedSimpArgs false
set_option linter.unusedVariables false
theorem exec_te (E : Env) (O : Ora) (f : FuncId) (c : Code) (S : St) : exec E O f .nor [.code c] S = te E O f c S := by
  simp only [exec]
  cases te E O f c S with
  | none => rfl
  | some r => obtain ⟨e, S'⟩ := r; exact exec_nil (E := E) (O := O) (f := f) e S'
def none2 : Ora := ⟨fun _ _ => none, fun _ _ _ => none⟩
theorem none2_ok (P : Program) : CallOK P none2.call := fun f ts r h => by simp [none2] at h
def sA : Code → Code
  | .seq a _ => a
  | c => c
def sB : Code → Code
  | .seq _ b => b
  | c => c
def cX : Code → Code
  | .cond _ a _ => a
  | c => c
def opAt (i : Nat) : Code → Oper
  | .region _ o _ => o[i]?.getD default
  | _ => default
theorem nil_eql_run {P : Program} {w : World} {a : Act} {dd : Option Nat} {t t2 ty e : TypeId} {y : Operand} {pos : String} {af : Array Edge} {gg : Option (Nat × Bool)} {A : Option Addr} {n c : Nat} (e1 : a.eval y = .slice A n c) (ht : P.underlying t = some (.slice e)) :
    (execOp a.eval ⟨dd, .binOp .eql t y (.const (.slice none 0 0)) t2, ty, pos, af, gg⟩).run P w = .ok (.value (.bool A.isNone)) w := by
  have e2 : a.eval (.const (.slice none 0 0)) = .slice none 0 0 := rfl
  have e3 := Go.Lib.run_eql_slice_nil (P := P) w t e A n c 0 0 ht
  simp only [execOp, e1, e2, eqGuard, bind, Pure.pure, Sem.run_bind', Result.andThen]
  have h0 : Sem.run P (if (!true) = true then Sem.pure () else Sem.pure ()) w = .ok () w := rfl
  rw [h0]
  dsimp only
  rw [e3]
  rfl
/-- The end of a function, at a return alone. -/
def finR (P : Program) (rs : List ResultVar) (ts : List TypeId) (r : Option (Ex × St)) : Option R :=
  match r with
  | some (.ret, S) => retT P rs ts S
  | _ => none
theorem finR_ret (P : Program) (rs : List ResultVar) (ts : List TypeId) (S : St) : finR P rs ts (some (.ret, S)) = retT P rs ts S := rfl
theorem finR_inv {E : Env} {O : Ora} {f : FuncId} {c : Code} {S : St} {rs : List ResultVar} {ts : List TypeId} {r : R} (h : finR E.P rs ts (exec E O f .nor [.code c] S) = some r) : ∃ S2, te E O f c S = some (.ret, S2) ∧ retT E.P rs ts S2 = some r := by
  rw [exec_te] at h
  cases hc : te E O f c S with
  | none => rw [hc] at h; simp [finR] at h
  | some p =>
    obtain ⟨e, S2⟩ := p
    rw [hc] at h
    cases e with
    | nor => simp [finR] at h
    | ret => exact ⟨_, rfl, h⟩
    | exit i => simp [finR] at h
theorem nil_calls {E : Env} (hm : E.P.follows .mixedOrders = true) {f : FuncId} {fn : Func} (hf : E.P.funcs[f]? = some fn) (hname : (fn.name == "runtime.NumGoroutine") = false) {R0 A B : Code} {id : Nat} {o1 o2 : Oper} {d1 d2 s : Nat} {t t2 e : TypeId}
    (hb : fn.body = some (.seq R0 (.seq (.seq (.region id #[o1, o2] false) (.cond (.tmp d2) A .skip)) B)))
    (h1 : o1.op = .move (.tmp s)) (h2 : o1.dst = some d1) (h3 : o1.guard = none) (h4 : o2.op = .binOp .eql t (.tmp d1) (.const (.slice none 0 0)) t2) (h5 : o2.dst = some d2) (h6 : o2.guard = none) (ht : E.P.underlying t = some (.slice e))
    (hd1 : d1 < fn.ntmps) (hd2 : d2 < fn.ntmps) (hn : 1 ≤ fn.ntmps) (k1 : okCode fn.ntmps R0 = true) (k2 : okCode fn.ntmps A = true) (k3 : okCode fn.ntmps B = true) (n1 : loopsOf R0 = []) (n2 : loopsOf A = []) (n3 : loopsOf B = [])
    {S1 : St} {x : T} {k : Nat} {l : List C} {r : R} (hx : ∃ b cap, x = SL b cap k l) (g0 : te E none2 f R0 ⟨params 0 [x], [], 0⟩ = some (.nor, S1)) (g1 : get S1.t s = x)
    (gt : k = 0 → l = [] → finR E.P fn.results.toList fn.resultTypes.toList (exec E none2 f .nor [.code A] ((S1.put d1 x).put d2 (Tev.B true))) = some r)
    (gf : finR E.P fn.results.toList fn.resultTypes.toList (exec E none2 f .nor [.code B] ((S1.put d1 x).put d2 (Tev.B false))) = some r) :
    (∃ fn, E.P.funcs[f]? = some fn ∧ (fn.name == "runtime.NumGoroutine") = false ∧ fn.body.isNone = false) ∧
    ∀ (w : World) (F : Nat → Prop) (us : List Value), (∀ b, F b → b < w.heap.size) → RTs ⟨w, F, w.heap.size, fun _ => none⟩ [x] us →
      Calls E.P f us.toArray w fun e w' => ∃ v, e = .returned v ∧ Below w.heap.size w w' ∧ ResOK F w w' r.1 r.2 v := by
  refine ⟨⟨fn, hf, hname, by rw [hb]; rfl⟩, fun w F us hF hr => ?_⟩
  have hul := RTs_length _ _ hr
  have hI : Inv fn.ntmps w F ⟨w, F, w.heap.size, fun _ => none⟩ ⟨params 0 [x], [], 0⟩ { tmps := us.toArray ++ Array.replicate (fn.ntmps - us.toArray.size) undef, defers := [] } := {
    good := ⟨hF, Nat.le_refl _⟩
    base := rfl
    below := Below.refl _ _
    Fin := fun _ h => h
    Fout := fun _ h => .inl h
    size := by simp at hul ⊢; omega
    defers := rfl
    tm := fun t => by
      show RT _ (get (params 0 [x]) t) _
      rw [params_get]
      simp only [Nat.zero_le, if_true, Nat.sub_zero]
      cases hx : [x][t]? with
      | none => simp only [Option.getD_none, RT]
      | some x' =>
        obtain ⟨u, hu, r⟩ := RTs_get _ _ _ _ hr hx
        have hlt : t < us.length := by rcases Nat.lt_or_ge t us.length with h' | h'; exact h'; simp [h'] at hu
        simp only [Option.getD_some, Array.getD_eq_getD_getElem?]
        rw [Array.getElem?_append_left (by simpa using hlt)]
        simp only [List.getElem?_toArray, hu, Option.getD_some]
        exact r
    oi := ⟨fun o x s h => by simp [obj] at h, fun o x h => by simp [obj] at h, fun o o' x x' b sh sh' h => by simp [obj] at h⟩
    fresh := fun _ _ => rfl
    grp := fun o l g e h => by simp [obj] at h }
  have lok : ∀ w0 F0, LoopOK E fn.ntmps w0 F0 .skip (none2.loop f) := fun w0 F0 id S e S' h => by simp [none2] at h
  have snd := fun (c : Code) (hc : loopsOf c = []) (hk : okCode fn.ntmps c = true) (S : St) (e : Ex) (S' : St) (he : te E none2 f c S = some (e, S')) =>
    te_sound (E := E) (O := none2) hm (none2_ok _) (f := f) (body := .skip) (lok w F) rfl c (by rw [hc]; intro b hb; simp at hb) (okCode_mono hk) S e S' he
  refine calls_of_wp hf hb (wp_seq (snd R0 n1 k1 _ _ _ g0 _ _ hI _ fun K1 a1 hi1 => ?_))
  refine wp_seq (wp_seq (wp_region_list ?_))
  -- the slice, and whether it is nil
  have hs : RT K1 x (a1.tmps.getD s undef) := by have := hi1.tm s; rw [g1] at this; exact this
  have hi2 := hi1.put (some d1) (by intro t e; cases e; exact hd1) hs
  have hsl : ∃ A' c, a1.tmps.getD s undef = .slice A' k c ∧ (A' = none → k = 0 ∧ l = []) := by
    obtain ⟨b, cap, rfl⟩ := hx
    cases b with
    | true =>
      simp only [SL, RT, RC] at hs
      obtain ⟨A', c, e, _, _, h⟩ := hs
      exact ⟨A', c, e, fun q => by rcases h with h | ⟨_, _, h, _⟩; exact h; rw [q] at h; simp at h⟩
    | false =>
      simp only [SL, RT] at hs
      obtain ⟨A', c, e, _, _, h⟩ := hs
      exact ⟨A', c, e, fun q => by rcases h with h | ⟨_, _, h, _⟩; exact h; rw [q] at h; simp at h⟩
  obtain ⟨A', c', hv, hnone⟩ := hsl
  have hput : (a1.put (some d1) (a1.tmps.getD s undef)).tmps.getD d1 undef = .slice A' k c' := by
    rw [getD_put _ _ _ _ (by rw [hi1.size]; exact hd1), if_pos rfl, hv]
  have hq : (execOp (a1.put (some d1) (a1.tmps.getD s undef)).eval o2).run E.P K1.w = .ok (.value (.bool A'.isNone)) K1.w := by
    obtain ⟨dd, op, ty, pos, af, gg⟩ := o2
    simp only at h4
    subst h4
    have e1 : (a1.put (some d1) (a1.tmps.getD s undef)).eval (.tmp d1) = .slice A' k c' := hput
    exact nil_eql_run e1 ht
  have hi3 := fun b => hi2.put (some d2) (by intro t e; cases e; exact hd2) (x := Tev.B b) (v := .bool b) (by simp only [RT, RC]; exact ⟨trivial, rfl⟩)
  have fin : ∀ (K' : Ctx) (a' : Act) (S2 : St), Inv fn.ntmps w F K' S2 a' → retT E.P fn.results.toList fn.resultTypes.toList S2 = some r → (bodyPost E.P fn (fun e w' => ∃ v, e = .returned v ∧ Below w.heap.size w w' ∧ ResOK F w w' r.1 r.2 v) .ret a' K'.w) := by
    intro K' a' S2 hi hS
    obtain ⟨v, hrun, hres⟩ := retT_sound hi hS
    exact ⟨hi.defers, v, hrun, v, rfl, hi.below, hres⟩
  unfold wpList
  rw [if_pos (by simp [Region.wanted, h3])]
  refine .inl ?_
  have hmv : (execOp a1.eval o1).run E.P K1.w = .ok (.value (a1.tmps.getD s undef)) K1.w := by
    obtain ⟨dd, op, ty, pos, af, gg⟩ := o1
    simp only at h1
    subst h1
    rfl
  unfold Oper.wp
  rw [hmv, Oper.upon_value, h2]
  unfold wpList
  rw [if_pos (by simp [Region.wanted, h6])]
  refine .inl ?_
  unfold Oper.wp
  rw [hq, Oper.upon_value, h5]
  unfold wpList
  have hbv : ((a1.put (some d1) (a1.tmps.getD s undef)).put (some d2) (.bool A'.isNone)).eval (.tmp d2) = .bool A'.isNone := by
    show ((a1.put (some d1) (a1.tmps.getD s undef)).put (some d2) (.bool A'.isNone)).tmps.getD d2 undef = _
    rw [getD_put _ _ _ _ (by rw [hi2.size]; exact hd2), if_pos rfl]
  refine wp_cond hbv ?_
  cases A' with
  | none =>
    obtain ⟨z1, z2⟩ := hnone rfl
    obtain ⟨S2, q1, q3⟩ := finR_inv (gt z1 z2)
    exact snd A n2 k2 _ _ _ q1 _ _ (hi3 true) _ fun K' a' hi' => fin K' a' S2 hi' q3
  | some ad =>
    obtain ⟨S2, q1, q3⟩ := finR_inv gf
    exact wp_skip (snd B n3 k3 _ _ _ q1 _ _ (hi3 false) _ fun K' a' hi' => fin K' a' S2 hi' q3)
end Go.Proofs.YtnbijiopcgfmfaaGreat.Tev
