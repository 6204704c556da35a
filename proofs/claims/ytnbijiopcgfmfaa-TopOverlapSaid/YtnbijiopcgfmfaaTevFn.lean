/- What the evaluator asks of this program: types, functions, loops (printed by wip/tools/tx.py; every equation checked by the kernel). -/
import Derived.Test.YtnbijiopcgfmfaaProg
import Derived.Test.YtnbijiopcgfmfaaTevSl
import Derived.KernelRfl
namespace Go.Proofs.Ytnbijiopcgfmfaa.Tev
open Go Go.RowKit Go.Proofs
set_option maxRecDepth 100000
set_option linter.unusedVariables false
set_option linter.unusedSimpArgs false
set_option linter.unusedSectionVars false
structure LpRow where
  f : Nat
  id : Nat
  k1 : Keep
  k2 : Keep
  ow : List (Nat × Option Nat × Nat)
def rows : List LpRow := [
  ⟨5, 37, [(0, false), (1, false), (2, false), (11, false), (18, false), (23, false)], [], []⟩,
  ⟨5, 24, [(0, false), (1, false), (2, false), (10, false), (11, false), (18, false), (19, false)], [(0, false), (1, false), (2, false), (11, false), (18, false)], []⟩,
  ⟨5, 16, [(0, false), (1, false), (2, false), (10, false), (11, false), (12, false), (13, false), (15, false), (17, false)], [(0, false), (1, false), (2, false), (10, false), (11, false), (12, false), (13, false), (15, false)], []⟩,
  ⟨5, 9, [(0, false), (1, false), (2, false), (10, false), (11, false), (12, false)], [(0, false), (1, false), (2, false), (10, false), (11, false)], [(10, none, 1)]⟩,
  ⟨15, 12, [(0, false), (3, false), (5, false)], [(3, false)], []⟩,
  ⟨15, 5, [(0, false), (3, false), (4, false)], [(0, false), (3, false)], []⟩,
  ⟨17, 7, [(4, false), (5, false), (8, false), (32, false), (33, false), (34, false)], [(4, false), (5, false), (8, false)], []⟩,
  ⟨22, 14, [(1, false), (4, false), (5, false), (6, false), (7, true), (8, false), (22, false), (23, false), (24, false), (35, false), (36, false), (37, false)], [(1, false), (4, false), (5, false), (6, false), (7, false), (8, false), (22, false), (23, false), (24, false)], [(4, none, 1)]⟩,
  ⟨22, 11, [(1, false), (4, false), (5, false), (6, false), (7, true), (8, false), (22, false), (23, false), (24, false)], [(1, false), (4, false), (22, false), (23, false), (24, false)], [(4, none, 1)]⟩,
  ⟨22, 7, [(1, false), (4, false), (22, false), (23, false), (24, false)], [(4, false)], [(4, none, 1)]⟩,
  ⟨23, 7, [(8, false), (10, false), (30, false), (31, false), (32, false)], [(8, false), (10, false)], []⟩,
  ⟨25, 4, [(0, false), (1, false), (5, false)], [], []⟩,
  ⟨29, 12, [(0, false), (6, false), (7, false), (19, false), (20, false), (21, false), (46, false), (47, false), (48, false)], [(0, false), (19, false), (20, false), (21, false)], []⟩,
  ⟨29, 5, [(0, false), (19, false), (20, false), (21, false)], [], []⟩,
  ⟨30, 8, [(1, false), (2, false), (6, false), (34, false), (35, false), (36, false)], [(2, false), (6, false)], [(6, some 1, 1), (6, some 2, 1)]⟩,
  ⟨31, 21, [(0, false), (4, false), (5, false), (57, false), (58, false), (59, false)], [(4, false), (5, false)], [(4, none, 1), (5, none, 3)]⟩,
  ⟨31, 8, [(0, false), (1, false), (5, false), (8, false), (29, false), (30, false), (31, false)], [(0, false), (1, false), (5, false), (8, false)], []⟩,
  ⟨32, 27, [(8, false), (19, false), (101, false), (102, false), (103, false)], [(19, false)], []⟩,
  ⟨32, 19, [(0, false), (2, false), (8, false), (83, false), (84, false), (85, false)], [(0, false), (2, false), (8, false)], []⟩,
  ⟨32, 13, [(0, false), (1, false), (2, false), (8, false), (50, false), (51, false), (52, false)], [(0, false), (1, false), (2, false), (8, false)], []⟩,
  ⟨32, 5, [(0, false), (1, false), (2, false), (8, false), (31, false), (32, false), (33, false)], [(0, false), (1, false), (2, false), (8, false)], [(8, none, 1)]⟩,
  ⟨33, 22, [(0, false), (15, false), (16, false), (79, false), (80, false), (81, false)], [(15, false)], []⟩,
  ⟨33, 8, [(0, false), (1, false), (2, false), (9, false), (44, false), (45, false), (46, false)], [(0, false), (1, false), (2, false), (9, false)], []⟩,
  ⟨34, 22, [(0, false), (1, false), (2, false), (18, false), (19, false), (20, false), (100, false), (101, false), (107, false), (108, false)], [(0, false), (1, false), (2, false), (18, false), (19, false), (20, false), (100, false), (101, false)], []⟩,
  ⟨34, 18, [(0, false), (1, false), (2, false), (18, false), (100, false), (101, false)], [], []⟩,
  ⟨34, 5, [(0, false), (1, false), (2, false), (35, false), (36, false), (37, false)], [(0, false), (1, false), (2, false)], []⟩,
  ⟨35, 4, [(0, false), (1, false), (5, false)], [], []⟩,
  ⟨41, 12, [(3, false), (5, false), (6, false), (7, false), (8, true), (9, false), (18, false), (19, false), (20, false), (31, false), (32, false), (33, false)], [(3, false), (5, false), (6, false), (7, false), (8, false), (9, false), (18, false), (19, false), (20, false)], [(5, none, 1)]⟩,
  ⟨41, 9, [(3, false), (5, false), (6, false), (7, false), (8, true), (9, false), (18, false), (19, false), (20, false)], [(3, false), (5, false), (18, false), (19, false), (20, false)], [(5, none, 1)]⟩,
  ⟨41, 5, [(3, false), (5, false), (18, false), (19, false), (20, false)], [(5, false)], [(5, none, 1)]⟩,
  ⟨39, 5, [(3, false), (18, false), (19, false), (20, false)], [(3, false)], []⟩,
  ⟨49, 1, [(0, false), (1, false)], [(0, false)], []⟩,
  ⟨40, 3, [(3, false), (4, false), (5, false), (13, false), (14, false), (15, false)], [(4, false), (5, false)], []⟩,
  ⟨50, 16, [(8, false), (11, false), (12, false), (52, false), (53, false), (54, false), (61, false), (62, false), (63, false)], [(8, false), (11, false), (52, false), (53, false), (54, false)], [(11, none, 2)]⟩,
  ⟨50, 13, [(8, false), (11, false), (52, false), (53, false), (54, false)], [(11, false)], [(11, none, 2)]⟩,
  ⟨50, 7, [(0, false), (4, false), (8, false), (34, false), (35, false), (36, false)], [(0, false), (4, false), (8, false)], []⟩,
  ⟨42, 5, [(3, false), (13, false), (14, false), (15, false)], [(3, false)], []⟩,
  ⟨53, 3, [(1, false), (2, false), (3, false), (12, false), (13, false), (14, false)], [(2, false), (3, false)], []⟩,
  ⟨59, 4, [(0, false), (1, false), (5, false)], [], []⟩,
  ⟨60, 4, [(8, false), (9, false), (10, false)], [], []⟩,
  ⟨11, 6, [(2, false), (4, false), (5, false), (15, false), (16, false), (17, false)], [(2, false), (4, false)], [(4, some 2, 1)]⟩,
  ⟨63, 5, [(0, false), (15, false), (16, false), (17, false)], [], []⟩,
  ⟨64, 8, [(0, false), (8, false), (23, false), (24, false), (25, false)], [(8, false)], [(8, none, 1)]⟩,
  ⟨66, 10, [(2, false), (10, false), (34, false), (35, false), (36, false)], [(10, false)], []⟩,
  ⟨68, 4, [(0, false), (1, false), (12, false), (13, false)], [], []⟩,
  ⟨77, 9, [(2, false), (3, false), (5, false), (26, false), (27, false), (32, false), (33, false)], [(2, false), (3, false), (26, false), (27, false)], []⟩,
  ⟨77, 6, [(2, false), (3, false), (26, false), (27, false)], [], []⟩,
  ⟨78, 2, [(0, false), (1, false), (7, false), (8, false)], [], []⟩,
  ⟨84, 5, [(4, false), (6, false)], [], []⟩,
  ⟨87, 4, [(1, false), (10, false), (11, false), (12, false)], [], []⟩,
  ⟨101, 2, [(0, false), (1, false), (7, false), (8, false)], [], []⟩,
  ⟨104, 3, [(1, false), (3, false), (7, false), (8, false), (9, false)], [(1, false), (3, false)], [(3, none, 3)]⟩,
  ⟨106, 5, [(6, false), (28, false), (29, false), (30, false)], [(6, false)], [(6, none, 3)]⟩,
  ⟨117, 2, [(0, false), (1, false), (7, false), (8, false)], [], []⟩,
  ⟨118, 3, [(1, false), (3, false), (7, false), (8, false), (9, false)], [(1, false), (3, false)], [(3, none, 3)]⟩,
  ⟨122, 6, [(10, false), (23, false), (24, false), (25, false)], [(10, false)], [(10, none, 1)]⟩]
def rowOf : List LpRow → Nat → Nat → LpRow
  | [], _, _ => ⟨0, 0, [], [], []⟩
  | r :: l, f, id => bif r.f == f && r.id == id then r else rowOf l f id
def rets : List (Nat × Keep) := [(4, [(6, false)]), (5, [(6, false)]), (10, [(4, false), (5, false)]), (15, [(2, false)]), (16, [(0, false)]), (17, [(6, false), (7, false)]), (18, [(6, false), (7, false)]), (19, [(6, false), (7, false)]), (20, [(4, false)]), (21, [(2, false)]), (22, [(2, false), (3, false)]), (23, [(4, false), (5, false)]), (24, [(4, false), (5, false)]), (25, [(4, false)]), (26, [(2, false)]), (27, [(4, false)]), (28, [(0, false)]), (29, [(2, false), (3, false), (4, false)]), (30, [(2, false), (3, false)]), (31, [(4, false), (5, false), (6, false)]), (32, [(6, false), (7, false)]), (33, [(6, false), (7, false)]), (34, [(6, false), (7, false)]), (35, [(4, false)]), (38, [(4, false)]), (41, [(4, false)]), (46, [(6, false)]), (47, [(4, false), (5, false)]), (48, [(4, false), (5, false)]), (39, [(2, false)]), (49, [(4, false)]), (40, [(4, false), (5, false)]), (50, [(6, false), (7, false)]), (42, [(2, false)]), (51, [(4, false)]), (52, [(2, false)]), (53, [(2, false), (3, false)]), (54, [(3, false)]), (59, [(4, false)]), (60, [(2, false)]), (43, [(2, false)]), (61, [(2, false), (3, false)]), (11, [(2, false), (3, false)]), (62, [(2, false)]), (63, [(4, false)]), (64, [(4, false), (5, false)]), (65, [(4, false), (5, false)]), (66, [(6, false), (7, false)]), (67, [(2, false)]), (68, [(4, false)]), (72, [(2, false)]), (73, [(2, false)]), (76, [(2, false)]), (77, [(4, false)]), (74, [(2, false)]), (75, [(2, false)]), (78, [(4, false)]), (37, [(2, false)]), (83, [(4, false)]), (84, [(2, false), (3, false)]), (85, [(3, false)]), (87, [(2, false)]), (88, [(8, false)]), (101, [(4, false)]), (103, [(4, false)]), (104, [(2, false)]), (105, [(3, false)]), (106, [(4, false), (5, false)]), (107, [(4, false)]), (108, [(4, false)]), (109, [(6, false)]), (110, [(4, false)]), (117, [(4, false)]), (118, [(2, false)]), (119, [(2, false)]), (120, [(6, false), (7, false), (8, false)]), (122, [(6, false), (7, false)])]
def retOf : List (Nat × Keep) → Nat → Keep
  | [], _ => []
  | r :: l, f => bif r.1 == f then r.2 else retOf l f
noncomputable def E0 : Env := ⟨Try.prog, fun f id => let r := rowOf rows f id; (r.k1, r.k2), fun f id => (rowOf rows f id).ow, fun f => retOf rets f, fun f id => if f = 16 ∧ id = 4 then [1, 2, 3] else []⟩
theorem E0fz (f id : Nat) : E0.fz f id = if f = 16 ∧ id = 4 then [1, 2, 3] else [] := rfl
theorem E0P : E0.P = Try.prog := rfl
def codeOf (fn : Func) : Code := fn.body.getD .skip
def loopIn (fn : Func) (id : Nat) : Code := (fn.body.bind (findLoop id)).getD .skip
theorem ty3 : szOf Try.prog 3 = some 1 ∧ bytesOf Try.prog 3 = some 8 ∧ zeroOf Try.prog 3 = some [.c (.v (.int .i64 0))] ∧ aggOf Try.prog 3 = some false ∧ zero1 Try.prog 3 = some (.c (.v (.int .i64 0))) ∧ cellTys Try.prog 8 3 = some [none] := ⟨by kernel_rfl, by kernel_rfl, by kernel_rfl, by kernel_rfl, by kernel_rfl, by kernel_rfl⟩
theorem ty4 : szOf Try.prog 4 = some 1 ∧ bytesOf Try.prog 4 = some 1 ∧ zeroOf Try.prog 4 = some [B false] ∧ aggOf Try.prog 4 = some false ∧ zero1 Try.prog 4 = some (B false) ∧ Try.prog.underlying 4 = some .bool ∧ cellTys Try.prog 8 4 = some [none] := ⟨by kernel_rfl, by kernel_rfl, by kernel_rfl, by kernel_rfl, by kernel_rfl, by kernel_rfl, by kernel_rfl⟩
theorem ty9 : szOf Try.prog 9 = some 1 ∧ bytesOf Try.prog 9 = some 16 ∧ zeroOf Try.prog 9 = some [.c (.v (.string ⟨#[]⟩))] ∧ aggOf Try.prog 9 = some false ∧ zero1 Try.prog 9 = some (.c (.v (.string ⟨#[]⟩))) ∧ Try.prog.underlying 9 = some .string ∧ cellTys Try.prog 8 9 = some [none] := ⟨by kernel_rfl, by kernel_rfl, by kernel_rfl, by kernel_rfl, by kernel_rfl, by kernel_rfl, by kernel_rfl⟩
theorem ty25 : szOf Try.prog 25 = some 1 ∧ bytesOf Try.prog 25 = some 8 ∧ zeroOf Try.prog 25 = some [.c (.v (.int .i64 0))] ∧ aggOf Try.prog 25 = some false ∧ zero1 Try.prog 25 = some (.c (.v (.int .i64 0))) ∧ cellTys Try.prog 8 25 = some [none] := ⟨by kernel_rfl, by kernel_rfl, by kernel_rfl, by kernel_rfl, by kernel_rfl, by kernel_rfl⟩
theorem ty28 : szOf Try.prog 28 = some 1 ∧ bytesOf Try.prog 28 = some 24 ∧ zeroOf Try.prog 28 = some [.c (.s (some 0) 0 [])] ∧ aggOf Try.prog 28 = some false ∧ zero1 Try.prog 28 = some (.c (.s (some 0) 0 [])) ∧ elemOf Try.prog 28 = some 3 ∧ Try.prog.underlying 28 = some (.slice 3) ∧ cellTys Try.prog 8 28 = some [some 1] := ⟨by kernel_rfl, by kernel_rfl, by kernel_rfl, by kernel_rfl, by kernel_rfl, by kernel_rfl, by kernel_rfl, by kernel_rfl⟩
theorem ty30 : szOf Try.prog 30 = some 3 ∧ bytesOf Try.prog 30 = some 40 ∧ zeroOf Try.prog 30 = some [.c (.v (.int .i64 0)), .c (.v (.int .i64 0)), .c (.s (some 0) 0 [])] ∧ aggOf Try.prog 30 = some true ∧ fieldOf Try.prog 30 0 = some (0, 3) ∧ fieldOf Try.prog 30 1 = some (1, 3) ∧ fieldOf Try.prog 30 2 = some (2, 28) ∧ placesOf Try.prog 30 = some (.st [(0, 1), (1, 1), (2, 1)]) ∧ cellTys Try.prog 8 30 = some [none, none, some 1] := ⟨by kernel_rfl, by kernel_rfl, by kernel_rfl, by kernel_rfl, by kernel_rfl, by kernel_rfl, by kernel_rfl, by kernel_rfl, by kernel_rfl⟩
theorem ty37 : szOf Try.prog 37 = some 3 ∧ bytesOf Try.prog 37 = some 56 ∧ zeroOf Try.prog 37 = some [.c (.v (.int .i64 0)), .c (.s (some 0) 0 []), .c (.s (some 0) 0 [])] ∧ aggOf Try.prog 37 = some true ∧ fieldOf Try.prog 37 0 = some (0, 3) ∧ fieldOf Try.prog 37 1 = some (1, 28) ∧ fieldOf Try.prog 37 2 = some (2, 28) ∧ placesOf Try.prog 37 = some (.st [(0, 1), (1, 1), (2, 1)]) ∧ cellTys Try.prog 8 37 = some [none, some 1, some 1] := ⟨by kernel_rfl, by kernel_rfl, by kernel_rfl, by kernel_rfl, by kernel_rfl, by kernel_rfl, by kernel_rfl, by kernel_rfl, by kernel_rfl⟩
theorem ty58 : szOf Try.prog 58 = some 1 ∧ bytesOf Try.prog 58 = some 24 ∧ zeroOf Try.prog 58 = some [.c (.s (some 0) 0 [])] ∧ aggOf Try.prog 58 = some false ∧ zero1 Try.prog 58 = some (.c (.s (some 0) 0 [])) ∧ elemOf Try.prog 58 = some 65 ∧ Try.prog.underlying 58 = some (.slice 65) ∧ cellTys Try.prog 8 58 = some [some 5] := ⟨by kernel_rfl, by kernel_rfl, by kernel_rfl, by kernel_rfl, by kernel_rfl, by kernel_rfl, by kernel_rfl, by kernel_rfl⟩
theorem ty59 : szOf Try.prog 59 = some 1 ∧ bytesOf Try.prog 59 = some 24 ∧ zeroOf Try.prog 59 = some [.c (.s (some 0) 0 [])] ∧ aggOf Try.prog 59 = some false ∧ zero1 Try.prog 59 = some (.c (.s (some 0) 0 [])) ∧ elemOf Try.prog 59 = some 68 ∧ Try.prog.underlying 59 = some (.slice 68) ∧ cellTys Try.prog 8 59 = some [some 4] := ⟨by kernel_rfl, by kernel_rfl, by kernel_rfl, by kernel_rfl, by kernel_rfl, by kernel_rfl, by kernel_rfl, by kernel_rfl⟩
theorem ty63 : szOf Try.prog 63 = some 1 ∧ bytesOf Try.prog 63 = some 24 ∧ zeroOf Try.prog 63 = some [.c (.s (some 0) 0 [])] ∧ aggOf Try.prog 63 = some false ∧ zero1 Try.prog 63 = some (.c (.s (some 0) 0 [])) ∧ elemOf Try.prog 63 = some 28 ∧ Try.prog.underlying 63 = some (.slice 28) ∧ cellTys Try.prog 8 63 = some [some 1] := ⟨by kernel_rfl, by kernel_rfl, by kernel_rfl, by kernel_rfl, by kernel_rfl, by kernel_rfl, by kernel_rfl, by kernel_rfl⟩
theorem ty65 : szOf Try.prog 65 = some 5 ∧ bytesOf Try.prog 65 = some 80 ∧ zeroOf Try.prog 65 = some [.c (.v (.int .i64 0)), .c (.s (some 0) 0 []), .c (.s (some 0) 0 []), .c (.v (.string ⟨#[]⟩)), B false] ∧ aggOf Try.prog 65 = some true ∧ fieldOf Try.prog 65 0 = some (0, 37) ∧ fieldOf Try.prog 65 1 = some (3, 9) ∧ fieldOf Try.prog 65 2 = some (4, 4) ∧ placesOf Try.prog 65 = some (.st [(0, 3), (3, 1), (4, 1)]) ∧ cellTys Try.prog 8 65 = some [none, some 1, some 1, none, none] := ⟨by kernel_rfl, by kernel_rfl, by kernel_rfl, by kernel_rfl, by kernel_rfl, by kernel_rfl, by kernel_rfl, by kernel_rfl, by kernel_rfl⟩
theorem ty68 : szOf Try.prog 68 = some 4 ∧ bytesOf Try.prog 68 = some 32 ∧ zeroOf Try.prog 68 = some [.c (.v (.int .i64 0)), .c (.v (.int .i64 0)), .c (.v (.int .i64 0)), B false] ∧ aggOf Try.prog 68 = some true ∧ fieldOf Try.prog 68 0 = some (0, 3) ∧ fieldOf Try.prog 68 1 = some (1, 3) ∧ fieldOf Try.prog 68 2 = some (2, 3) ∧ fieldOf Try.prog 68 3 = some (3, 4) ∧ placesOf Try.prog 68 = some (.st [(0, 1), (1, 1), (2, 1), (3, 1)]) ∧ cellTys Try.prog 8 68 = some [none, none, none, none] := ⟨by kernel_rfl, by kernel_rfl, by kernel_rfl, by kernel_rfl, by kernel_rfl, by kernel_rfl, by kernel_rfl, by kernel_rfl, by kernel_rfl, by kernel_rfl⟩
theorem ty69 : szOf Try.prog 69 = some 1 ∧ bytesOf Try.prog 69 = some 24 ∧ zeroOf Try.prog 69 = some [.c (.s (some 0) 0 [])] ∧ aggOf Try.prog 69 = some false ∧ zero1 Try.prog 69 = some (.c (.s (some 0) 0 [])) ∧ elemOf Try.prog 69 = some 37 ∧ Try.prog.underlying 69 = some (.slice 37) ∧ cellTys Try.prog 8 69 = some [some 3] := ⟨by kernel_rfl, by kernel_rfl, by kernel_rfl, by kernel_rfl, by kernel_rfl, by kernel_rfl, by kernel_rfl, by kernel_rfl⟩
theorem ty85 : szOf Try.prog 85 = some 1 ∧ bytesOf Try.prog 85 = some 24 ∧ zeroOf Try.prog 85 = some [.c (.s (some 0) 0 [])] ∧ aggOf Try.prog 85 = some false ∧ zero1 Try.prog 85 = some (.c (.s (some 0) 0 [])) ∧ elemOf Try.prog 85 = some 87 ∧ Try.prog.underlying 85 = some (.slice 87) ∧ cellTys Try.prog 8 85 = some [some 7] := ⟨by kernel_rfl, by kernel_rfl, by kernel_rfl, by kernel_rfl, by kernel_rfl, by kernel_rfl, by kernel_rfl, by kernel_rfl⟩
theorem ty87 : szOf Try.prog 87 = some 7 ∧ bytesOf Try.prog 87 = some 96 ∧ zeroOf Try.prog 87 = some [.c (.v (.string ⟨#[]⟩)), .c (.v (.int .i64 0)), .c (.v (.int .i64 0)), .c (.v (.int .i64 0)), .c (.v (.int .i64 0)), .c (.s (some 0) 0 []), .c (.s (some 0) 0 [])] ∧ aggOf Try.prog 87 = some true ∧ fieldOf Try.prog 87 0 = some (0, 9) ∧ fieldOf Try.prog 87 1 = some (1, 3) ∧ fieldOf Try.prog 87 2 = some (2, 3) ∧ fieldOf Try.prog 87 3 = some (3, 30) ∧ fieldOf Try.prog 87 4 = some (6, 85) ∧ placesOf Try.prog 87 = some (.st [(0, 1), (1, 1), (2, 1), (3, 3), (6, 1)]) ∧ cellTys Try.prog 8 87 = some [none, none, none, none, none, some 1, some 7] := ⟨by kernel_rfl, by kernel_rfl, by kernel_rfl, by kernel_rfl, by kernel_rfl, by kernel_rfl, by kernel_rfl, by kernel_rfl, by kernel_rfl, by kernel_rfl, by kernel_rfl⟩
theorem ty89 : szOf Try.prog 89 = some 11 ∧ bytesOf Try.prog 89 = some 160 ∧ zeroOf Try.prog 89 = some [.c (.v (.int .i64 0)), .c (.v (.int .i64 0)), .c (.s (some 0) 0 []), .c (.s (some 0) 0 []), .c (.v (.string ⟨#[]⟩)), .c (.v (.int .i64 0)), .c (.v (.int .i64 0)), .c (.v (.int .i64 0)), .c (.v (.int .i64 0)), .c (.s (some 0) 0 []), .c (.s (some 0) 0 [])] ∧ aggOf Try.prog 89 = some true ∧ fieldOf Try.prog 89 0 = some (0, 30) ∧ fieldOf Try.prog 89 1 = some (3, 85) ∧ fieldOf Try.prog 89 2 = some (4, 87) ∧ placesOf Try.prog 89 = some (.st [(0, 3), (3, 1), (4, 7)]) ∧ cellTys Try.prog 8 89 = some [none, none, some 1, some 7, none, none, none, none, none, some 1, some 7] := ⟨by kernel_rfl, by kernel_rfl, by kernel_rfl, by kernel_rfl, by kernel_rfl, by kernel_rfl, by kernel_rfl, by kernel_rfl, by kernel_rfl⟩
theorem ty91 : szOf Try.prog 91 = some 1 ∧ bytesOf Try.prog 91 = some 24 ∧ zeroOf Try.prog 91 = some [.c (.s (some 0) 0 [])] ∧ aggOf Try.prog 91 = some false ∧ zero1 Try.prog 91 = some (.c (.s (some 0) 0 [])) ∧ elemOf Try.prog 91 = some 89 ∧ Try.prog.underlying 91 = some (.slice 89) ∧ cellTys Try.prog 8 91 = some [some 11] := ⟨by kernel_rfl, by kernel_rfl, by kernel_rfl, by kernel_rfl, by kernel_rfl, by kernel_rfl, by kernel_rfl, by kernel_rfl⟩
theorem ty93 : szOf Try.prog 93 = some 2 ∧ bytesOf Try.prog 93 = some 48 ∧ zeroOf Try.prog 93 = some [.c (.s (some 0) 0 []), .c (.s (some 0) 0 [])] ∧ aggOf Try.prog 93 = some true ∧ fieldOf Try.prog 93 0 = some (0, 28) ∧ fieldOf Try.prog 93 1 = some (1, 91) ∧ placesOf Try.prog 93 = some (.st [(0, 1), (1, 1)]) ∧ cellTys Try.prog 8 93 = some [some 1, some 11] := ⟨by kernel_rfl, by kernel_rfl, by kernel_rfl, by kernel_rfl, by kernel_rfl, by kernel_rfl, by kernel_rfl, by kernel_rfl⟩
theorem ty98 : szOf Try.prog 98 = some 1 ∧ bytesOf Try.prog 98 = some 24 ∧ zeroOf Try.prog 98 = some [.c (.s (some 0) 0 [])] ∧ aggOf Try.prog 98 = some false ∧ zero1 Try.prog 98 = some (.c (.s (some 0) 0 [])) ∧ elemOf Try.prog 98 = some 120 ∧ Try.prog.underlying 98 = some (.slice 120) ∧ cellTys Try.prog 8 98 = some [some 2] := ⟨by kernel_rfl, by kernel_rfl, by kernel_rfl, by kernel_rfl, by kernel_rfl, by kernel_rfl, by kernel_rfl, by kernel_rfl⟩
theorem ty103 : szOf Try.prog 103 = some 1 ∧ bytesOf Try.prog 103 = some 8 ∧ zeroOf Try.prog 103 = some [.junk] ∧ aggOf Try.prog 103 = some false ∧ zero1 Try.prog 103 = some (.junk) ∧ isIntMap Try.prog 103 = some 4 ∧ Try.prog.underlying 103 = some (.map 3 4) ∧ cellTys Try.prog 8 103 = some [none] := ⟨by kernel_rfl, by kernel_rfl, by kernel_rfl, by kernel_rfl, by kernel_rfl, by kernel_rfl, by kernel_rfl, by kernel_rfl⟩
theorem ty119 : szOf Try.prog 119 = some 1 ∧ bytesOf Try.prog 119 = some 8 ∧ zeroOf Try.prog 119 = some [.junk] ∧ aggOf Try.prog 119 = some false ∧ zero1 Try.prog 119 = some (.junk) ∧ isIntMap Try.prog 119 = some 28 ∧ Try.prog.underlying 119 = some (.map 3 28) ∧ cellTys Try.prog 8 119 = some [none] := ⟨by kernel_rfl, by kernel_rfl, by kernel_rfl, by kernel_rfl, by kernel_rfl, by kernel_rfl, by kernel_rfl, by kernel_rfl⟩
theorem ty120 : szOf Try.prog 120 = some 2 ∧ bytesOf Try.prog 120 = some 16 ∧ zeroOf Try.prog 120 = some [.c (.v (.int .i64 0)), .c (.v (.int .i64 0))] ∧ aggOf Try.prog 120 = some true ∧ arrOf Try.prog 120 = some (2, 3) ∧ placesOf Try.prog 120 = some (.ar 1) ∧ elemOf Try.prog 120 = none ∧ cellTys Try.prog 8 120 = some [none, none] := ⟨by kernel_rfl, by kernel_rfl, by kernel_rfl, by kernel_rfl, by kernel_rfl, by kernel_rfl, by kernel_rfl, by kernel_rfl⟩
theorem ty126 : szOf Try.prog 126 = some 1 ∧ bytesOf Try.prog 126 = some 24 ∧ zeroOf Try.prog 126 = some [.c (.s (some 0) 0 [])] ∧ aggOf Try.prog 126 = some false ∧ zero1 Try.prog 126 = some (.c (.s (some 0) 0 [])) ∧ elemOf Try.prog 126 = some 9 ∧ Try.prog.underlying 126 = some (.slice 9) ∧ cellTys Try.prog 8 126 = some [some 1] := ⟨by kernel_rfl, by kernel_rfl, by kernel_rfl, by kernel_rfl, by kernel_rfl, by kernel_rfl, by kernel_rfl, by kernel_rfl⟩
theorem ty146 : szOf Try.prog 146 = some 1 ∧ bytesOf Try.prog 146 = some 24 ∧ zeroOf Try.prog 146 = some [.c (.s (some 0) 0 [])] ∧ aggOf Try.prog 146 = some false ∧ zero1 Try.prog 146 = some (.c (.s (some 0) 0 [])) ∧ elemOf Try.prog 146 = some 30 ∧ Try.prog.underlying 146 = some (.slice 30) ∧ cellTys Try.prog 8 146 = some [some 3] := ⟨by kernel_rfl, by kernel_rfl, by kernel_rfl, by kernel_rfl, by kernel_rfl, by kernel_rfl, by kernel_rfl, by kernel_rfl⟩
theorem tb4 : (∀ x y a b, bin2 Try.prog .eql 4 x y (.c (.v (.bool a))) (.c (.v (.bool b))) = some (B (decide (a = b)))) ∧ ∀ x y a b, bin2 Try.prog .neq 4 x y (.c (.v (.bool a))) (.c (.v (.bool b))) = some (B (decide (¬ a = b))) := ⟨fun x y a b => bin_eqlB (by kernel_rfl) x y a b, fun x y a b => bin_neqB (by kernel_rfl) x y a b⟩
/-! quadrat/quadrattop.TopOverlap -/
theorem fn4 : E0.P.funcs[4]? = some Try.f4 := Try.func4
theorem body4 : Try.f4.body = some (codeOf Try.f4) := by kernel_rfl
theorem ok4 : okFunc Try.f4 = true := by kernel_rfl
theorem kr4 : E0.kr 4 = [(6, false)] := by kernel_rfl
/-! quadrat/quadrattop.TopArguments -/
theorem fn5 : E0.P.funcs[5]? = some Try.f5 := Try.func5
theorem body5 : Try.f5.body = some (codeOf Try.f5) := by kernel_rfl
theorem ok5 : okFunc Try.f5 = true := by kernel_rfl
theorem kr5 : E0.kr 5 = [(6, false)] := by kernel_rfl
theorem kp5_37 : E0.kp 5 37 = ([(0, false), (1, false), (2, false), (11, false), (18, false), (23, false)], []) := by kernel_rfl
theorem ow5_37 : E0.own 5 37 = [] := by kernel_rfl
theorem lp5_37 : ((E0.P.funcs[5]?).bind fun fn => fn.body.bind (findLoop 37)) = some (loopIn Try.f5 37) := by kernel_rfl
theorem kp5_24 : E0.kp 5 24 = ([(0, false), (1, false), (2, false), (10, false), (11, false), (18, false), (19, false)], [(0, false), (1, false), (2, false), (11, false), (18, false)]) := by kernel_rfl
theorem ow5_24 : E0.own 5 24 = [] := by kernel_rfl
theorem lp5_24 : ((E0.P.funcs[5]?).bind fun fn => fn.body.bind (findLoop 24)) = some (loopIn Try.f5 24) := by kernel_rfl
theorem kp5_16 : E0.kp 5 16 = ([(0, false), (1, false), (2, false), (10, false), (11, false), (12, false), (13, false), (15, false), (17, false)], [(0, false), (1, false), (2, false), (10, false), (11, false), (12, false), (13, false), (15, false)]) := by kernel_rfl
theorem ow5_16 : E0.own 5 16 = [] := by kernel_rfl
theorem lp5_16 : ((E0.P.funcs[5]?).bind fun fn => fn.body.bind (findLoop 16)) = some (loopIn Try.f5 16) := by kernel_rfl
theorem kp5_9 : E0.kp 5 9 = ([(0, false), (1, false), (2, false), (10, false), (11, false), (12, false)], [(0, false), (1, false), (2, false), (10, false), (11, false)]) := by kernel_rfl
theorem ow5_9 : E0.own 5 9 = [(10, none, 1)] := by kernel_rfl
theorem lp5_9 : ((E0.P.funcs[5]?).bind fun fn => fn.body.bind (findLoop 9)) = some (loopIn Try.f5 9) := by kernel_rfl
/-! quadrat/overlap.Places -/
theorem fn10 : E0.P.funcs[10]? = some Try.f10 := Try.func10
theorem body10 : Try.f10.body = some (codeOf Try.f10) := by kernel_rfl
theorem ok10 : okFunc Try.f10 = true := by kernel_rfl
theorem kr10 : E0.kr 10 = [(4, false), (5, false)] := by kernel_rfl
/-! quadrat/quadratref17.Turns -/
theorem fn15 : E0.P.funcs[15]? = some Try.f15 := Try.func15
theorem body15 : Try.f15.body = some (codeOf Try.f15) := by kernel_rfl
theorem ok15 : okFunc Try.f15 = true := by kernel_rfl
theorem kr15 : E0.kr 15 = [(2, false)] := by kernel_rfl
theorem kp15_12 : E0.kp 15 12 = ([(0, false), (3, false), (5, false)], [(3, false)]) := by kernel_rfl
theorem ow15_12 : E0.own 15 12 = [] := by kernel_rfl
theorem lp15_12 : ((E0.P.funcs[15]?).bind fun fn => fn.body.bind (findLoop 12)) = some (loopIn Try.f15 12) := by kernel_rfl
theorem kp15_5 : E0.kp 15 5 = ([(0, false), (3, false), (4, false)], [(0, false), (3, false)]) := by kernel_rfl
theorem ow15_5 : E0.own 15 5 = [] := by kernel_rfl
theorem lp15_5 : ((E0.P.funcs[15]?).bind fun fn => fn.body.bind (findLoop 5)) = some (loopIn Try.f15 5) := by kernel_rfl
/-! quadrat/quadratlaw19.Awake -/
theorem fn16 : E0.P.funcs[16]? = some Try.f16 := Try.func16
theorem body16 : Try.f16.body = some (codeOf Try.f16) := by kernel_rfl
theorem ok16 : okFunc Try.f16 = true := by kernel_rfl
theorem kr16 : E0.kr 16 = [(0, false)] := by kernel_rfl
/-! quadrat/overlap.Gcd -/
theorem fn17 : E0.P.funcs[17]? = some Try.f17 := Try.func17
theorem body17 : Try.f17.body = some (codeOf Try.f17) := by kernel_rfl
theorem ok17 : okFunc Try.f17 = true := by kernel_rfl
theorem kr17 : E0.kr 17 = [(6, false), (7, false)] := by kernel_rfl
theorem kp17_7 : E0.kp 17 7 = ([(4, false), (5, false), (8, false), (32, false), (33, false), (34, false)], [(4, false), (5, false), (8, false)]) := by kernel_rfl
theorem ow17_7 : E0.own 17 7 = [] := by kernel_rfl
theorem lp17_7 : ((E0.P.funcs[17]?).bind fun fn => fn.body.bind (findLoop 7)) = some (loopIn Try.f17 7) := by kernel_rfl
/-! quadrat/overlap.Range -/
theorem fn18 : E0.P.funcs[18]? = some Try.f18 := Try.func18
theorem body18 : Try.f18.body = some (codeOf Try.f18) := by kernel_rfl
theorem ok18 : okFunc Try.f18 = true := by kernel_rfl
theorem kr18 : E0.kr 18 = [(6, false), (7, false)] := by kernel_rfl
/-! quadrat/overlap.Meet -/
theorem fn19 : E0.P.funcs[19]? = some Try.f19 := Try.func19
theorem body19 : Try.f19.body = some (codeOf Try.f19) := by kernel_rfl
theorem ok19 : okFunc Try.f19 = true := by kernel_rfl
theorem kr19 : E0.kr 19 = [(6, false), (7, false)] := by kernel_rfl
/-! quadrat/quadrattop.desc -/
theorem fn20 : E0.P.funcs[20]? = some Try.f20 := Try.func20
theorem body20 : Try.f20.body = some (codeOf Try.f20) := by kernel_rfl
theorem ok20 : okFunc Try.f20 = true := by kernel_rfl
theorem kr20 : E0.kr 20 = [(4, false)] := by kernel_rfl
/-! quadrat/section.Valid -/
theorem fn21 : E0.P.funcs[21]? = some Try.f21 := Try.func21
theorem body21 : Try.f21.body = some (codeOf Try.f21) := by kernel_rfl
theorem ok21 : okFunc Try.f21 = true := by kernel_rfl
theorem kr21 : E0.kr 21 = [(2, false)] := by kernel_rfl
/-! quadrat/section.Places -/
theorem fn22 : E0.P.funcs[22]? = some Try.f22 := Try.func22
theorem body22 : Try.f22.body = some (codeOf Try.f22) := by kernel_rfl
theorem ok22 : okFunc Try.f22 = true := by kernel_rfl
theorem kr22 : E0.kr 22 = [(2, false), (3, false)] := by kernel_rfl
theorem kp22_14 : E0.kp 22 14 = ([(1, false), (4, false), (5, false), (6, false), (7, true), (8, false), (22, false), (23, false), (24, false), (35, false), (36, false), (37, false)], [(1, false), (4, false), (5, false), (6, false), (7, false), (8, false), (22, false), (23, false), (24, false)]) := by kernel_rfl
theorem ow22_14 : E0.own 22 14 = [(4, none, 1)] := by kernel_rfl
theorem lp22_14 : ((E0.P.funcs[22]?).bind fun fn => fn.body.bind (findLoop 14)) = some (loopIn Try.f22 14) := by kernel_rfl
theorem kp22_11 : E0.kp 22 11 = ([(1, false), (4, false), (5, false), (6, false), (7, true), (8, false), (22, false), (23, false), (24, false)], [(1, false), (4, false), (22, false), (23, false), (24, false)]) := by kernel_rfl
theorem ow22_11 : E0.own 22 11 = [(4, none, 1)] := by kernel_rfl
theorem lp22_11 : ((E0.P.funcs[22]?).bind fun fn => fn.body.bind (findLoop 11)) = some (loopIn Try.f22 11) := by kernel_rfl
theorem kp22_7 : E0.kp 22 7 = ([(1, false), (4, false), (22, false), (23, false), (24, false)], [(4, false)]) := by kernel_rfl
theorem ow22_7 : E0.own 22 7 = [(4, none, 1)] := by kernel_rfl
theorem lp22_7 : ((E0.P.funcs[22]?).bind fun fn => fn.body.bind (findLoop 7)) = some (loopIn Try.f22 7) := by kernel_rfl
/-! quadrat/section.Share -/
theorem fn23 : E0.P.funcs[23]? = some Try.f23 := Try.func23
theorem body23 : Try.f23.body = some (codeOf Try.f23) := by kernel_rfl
theorem ok23 : okFunc Try.f23 = true := by kernel_rfl
theorem kr23 : E0.kr 23 = [(4, false), (5, false)] := by kernel_rfl
theorem kp23_7 : E0.kp 23 7 = ([(8, false), (10, false), (30, false), (31, false), (32, false)], [(8, false), (10, false)]) := by kernel_rfl
theorem ow23_7 : E0.own 23 7 = [] := by kernel_rfl
theorem lp23_7 : ((E0.P.funcs[23]?).bind fun fn => fn.body.bind (findLoop 7)) = some (loopIn Try.f23 7) := by kernel_rfl
/-! quadrat/overlap.Twice -/
theorem fn24 : E0.P.funcs[24]? = some Try.f24 := Try.func24
theorem body24 : Try.f24.body = some (codeOf Try.f24) := by kernel_rfl
theorem ok24 : okFunc Try.f24 = true := by kernel_rfl
theorem kr24 : E0.kr 24 = [(4, false), (5, false)] := by kernel_rfl
/-! quadrat/quadratref17.SameInts -/
theorem fn25 : E0.P.funcs[25]? = some Try.f25 := Try.func25
theorem body25 : Try.f25.body = some (codeOf Try.f25) := by kernel_rfl
theorem ok25 : okFunc Try.f25 = true := by kernel_rfl
theorem kr25 : E0.kr 25 = [(4, false)] := by kernel_rfl
theorem kp25_4 : E0.kp 25 4 = ([(0, false), (1, false), (5, false)], []) := by kernel_rfl
theorem ow25_4 : E0.own 25 4 = [] := by kernel_rfl
theorem lp25_4 : ((E0.P.funcs[25]?).bind fun fn => fn.body.bind (findLoop 4)) = some (loopIn Try.f25 4) := by kernel_rfl
/-! quadrat/section.Twice -/
theorem fn26 : E0.P.funcs[26]? = some Try.f26 := Try.func26
theorem body26 : Try.f26.body = some (codeOf Try.f26) := by kernel_rfl
theorem ok26 : okFunc Try.f26 = true := by kernel_rfl
theorem kr26 : E0.kr 26 = [(2, false)] := by kernel_rfl
/-! quadrat/quadratlaw24.Large -/
theorem fn27 : E0.P.funcs[27]? = some Try.f27 := Try.func27
theorem body27 : Try.f27.body = some (codeOf Try.f27) := by kernel_rfl
theorem ok27 : okFunc Try.f27 = true := by kernel_rfl
theorem kr27 : E0.kr 27 = [(4, false)] := by kernel_rfl
/-! quadrat/quadratlaw24.Awake -/
theorem fn28 : E0.P.funcs[28]? = some Try.f28 := Try.func28
theorem body28 : Try.f28.body = some (codeOf Try.f28) := by kernel_rfl
theorem ok28 : okFunc Try.f28 = true := by kernel_rfl
theorem kr28 : E0.kr 28 = [(0, false)] := by kernel_rfl
/-! quadrat/argue.Alias -/
theorem fn29 : E0.P.funcs[29]? = some Try.f29 := Try.func29
theorem body29 : Try.f29.body = some (codeOf Try.f29) := by kernel_rfl
theorem ok29 : okFunc Try.f29 = true := by kernel_rfl
theorem kr29 : E0.kr 29 = [(2, false), (3, false), (4, false)] := by kernel_rfl
theorem kp29_12 : E0.kp 29 12 = ([(0, false), (6, false), (7, false), (19, false), (20, false), (21, false), (46, false), (47, false), (48, false)], [(0, false), (19, false), (20, false), (21, false)]) := by kernel_rfl
theorem ow29_12 : E0.own 29 12 = [] := by kernel_rfl
theorem lp29_12 : ((E0.P.funcs[29]?).bind fun fn => fn.body.bind (findLoop 12)) = some (loopIn Try.f29 12) := by kernel_rfl
theorem kp29_5 : E0.kp 29 5 = ([(0, false), (19, false), (20, false), (21, false)], []) := by kernel_rfl
theorem ow29_5 : E0.own 29 5 = [] := by kernel_rfl
theorem lp29_5 : ((E0.P.funcs[29]?).bind fun fn => fn.body.bind (findLoop 5)) = some (loopIn Try.f29 5) := by kernel_rfl
/-! quadrat/argue.Strip -/
theorem fn30 : E0.P.funcs[30]? = some Try.f30 := Try.func30
theorem body30 : Try.f30.body = some (codeOf Try.f30) := by kernel_rfl
theorem ok30 : okFunc Try.f30 = true := by kernel_rfl
theorem kr30 : E0.kr 30 = [(2, false), (3, false)] := by kernel_rfl
theorem kp30_8 : E0.kp 30 8 = ([(1, false), (2, false), (6, false), (34, false), (35, false), (36, false)], [(2, false), (6, false)]) := by kernel_rfl
theorem ow30_8 : E0.own 30 8 = [(6, some 1, 1), (6, some 2, 1)] := by kernel_rfl
theorem lp30_8 : ((E0.P.funcs[30]?).bind fun fn => fn.body.bind (findLoop 8)) = some (loopIn Try.f30 8) := by kernel_rfl
/-! quadrat/argue.Enter -/
theorem fn31 : E0.P.funcs[31]? = some Try.f31 := Try.func31
theorem body31 : Try.f31.body = some (codeOf Try.f31) := by kernel_rfl
theorem ok31 : okFunc Try.f31 = true := by kernel_rfl
theorem kr31 : E0.kr 31 = [(4, false), (5, false), (6, false)] := by kernel_rfl
theorem kp31_21 : E0.kp 31 21 = ([(0, false), (4, false), (5, false), (57, false), (58, false), (59, false)], [(4, false), (5, false)]) := by kernel_rfl
theorem ow31_21 : E0.own 31 21 = [(4, none, 1), (5, none, 3)] := by kernel_rfl
theorem lp31_21 : ((E0.P.funcs[31]?).bind fun fn => fn.body.bind (findLoop 21)) = some (loopIn Try.f31 21) := by kernel_rfl
theorem kp31_8 : E0.kp 31 8 = ([(0, false), (1, false), (5, false), (8, false), (29, false), (30, false), (31, false)], [(0, false), (1, false), (5, false), (8, false)]) := by kernel_rfl
theorem ow31_8 : E0.own 31 8 = [] := by kernel_rfl
theorem lp31_8 : ((E0.P.funcs[31]?).bind fun fn => fn.body.bind (findLoop 8)) = some (loopIn Try.f31 8) := by kernel_rfl
/-! quadrat/argue.Do -/
theorem fn32 : E0.P.funcs[32]? = some Try.f32 := Try.func32
theorem body32 : Try.f32.body = some (codeOf Try.f32) := by kernel_rfl
theorem ok32 : okFunc Try.f32 = true := by kernel_rfl
theorem kr32 : E0.kr 32 = [(6, false), (7, false)] := by kernel_rfl
theorem kp32_27 : E0.kp 32 27 = ([(8, false), (19, false), (101, false), (102, false), (103, false)], [(19, false)]) := by kernel_rfl
theorem ow32_27 : E0.own 32 27 = [] := by kernel_rfl
theorem lp32_27 : ((E0.P.funcs[32]?).bind fun fn => fn.body.bind (findLoop 27)) = some (loopIn Try.f32 27) := by kernel_rfl
theorem kp32_19 : E0.kp 32 19 = ([(0, false), (2, false), (8, false), (83, false), (84, false), (85, false)], [(0, false), (2, false), (8, false)]) := by kernel_rfl
theorem ow32_19 : E0.own 32 19 = [] := by kernel_rfl
theorem lp32_19 : ((E0.P.funcs[32]?).bind fun fn => fn.body.bind (findLoop 19)) = some (loopIn Try.f32 19) := by kernel_rfl
theorem kp32_13 : E0.kp 32 13 = ([(0, false), (1, false), (2, false), (8, false), (50, false), (51, false), (52, false)], [(0, false), (1, false), (2, false), (8, false)]) := by kernel_rfl
theorem ow32_13 : E0.own 32 13 = [] := by kernel_rfl
theorem lp32_13 : ((E0.P.funcs[32]?).bind fun fn => fn.body.bind (findLoop 13)) = some (loopIn Try.f32 13) := by kernel_rfl
theorem kp32_5 : E0.kp 32 5 = ([(0, false), (1, false), (2, false), (8, false), (31, false), (32, false), (33, false)], [(0, false), (1, false), (2, false), (8, false)]) := by kernel_rfl
theorem ow32_5 : E0.own 32 5 = [(8, none, 1)] := by kernel_rfl
theorem lp32_5 : ((E0.P.funcs[32]?).bind fun fn => fn.body.bind (findLoop 5)) = some (loopIn Try.f32 5) := by kernel_rfl
/-! quadrat/argue.Leave -/
theorem fn33 : E0.P.funcs[33]? = some Try.f33 := Try.func33
theorem body33 : Try.f33.body = some (codeOf Try.f33) := by kernel_rfl
theorem ok33 : okFunc Try.f33 = true := by kernel_rfl
theorem kr33 : E0.kr 33 = [(6, false), (7, false)] := by kernel_rfl
theorem kp33_22 : E0.kp 33 22 = ([(0, false), (15, false), (16, false), (79, false), (80, false), (81, false)], [(15, false)]) := by kernel_rfl
theorem ow33_22 : E0.own 33 22 = [] := by kernel_rfl
theorem lp33_22 : ((E0.P.funcs[33]?).bind fun fn => fn.body.bind (findLoop 22)) = some (loopIn Try.f33 22) := by kernel_rfl
theorem kp33_8 : E0.kp 33 8 = ([(0, false), (1, false), (2, false), (9, false), (44, false), (45, false), (46, false)], [(0, false), (1, false), (2, false), (9, false)]) := by kernel_rfl
theorem ow33_8 : E0.own 33 8 = [] := by kernel_rfl
theorem lp33_8 : ((E0.P.funcs[33]?).bind fun fn => fn.body.bind (findLoop 8)) = some (loopIn Try.f33 8) := by kernel_rfl
/-! quadrat/argue.Same -/
theorem fn34 : E0.P.funcs[34]? = some Try.f34 := Try.func34
theorem body34 : Try.f34.body = some (codeOf Try.f34) := by kernel_rfl
theorem ok34 : okFunc Try.f34 = true := by kernel_rfl
theorem kr34 : E0.kr 34 = [(6, false), (7, false)] := by kernel_rfl
theorem kp34_22 : E0.kp 34 22 = ([(0, false), (1, false), (2, false), (18, false), (19, false), (20, false), (100, false), (101, false), (107, false), (108, false)], [(0, false), (1, false), (2, false), (18, false), (19, false), (20, false), (100, false), (101, false)]) := by kernel_rfl
theorem ow34_22 : E0.own 34 22 = [] := by kernel_rfl
theorem lp34_22 : ((E0.P.funcs[34]?).bind fun fn => fn.body.bind (findLoop 22)) = some (loopIn Try.f34 22) := by kernel_rfl
theorem kp34_18 : E0.kp 34 18 = ([(0, false), (1, false), (2, false), (18, false), (100, false), (101, false)], []) := by kernel_rfl
theorem ow34_18 : E0.own 34 18 = [] := by kernel_rfl
theorem lp34_18 : ((E0.P.funcs[34]?).bind fun fn => fn.body.bind (findLoop 18)) = some (loopIn Try.f34 18) := by kernel_rfl
theorem kp34_5 : E0.kp 34 5 = ([(0, false), (1, false), (2, false), (35, false), (36, false), (37, false)], [(0, false), (1, false), (2, false)]) := by kernel_rfl
theorem ow34_5 : E0.own 34 5 = [] := by kernel_rfl
theorem lp34_5 : ((E0.P.funcs[34]?).bind fun fn => fn.body.bind (findLoop 5)) = some (loopIn Try.f34 5) := by kernel_rfl
/-! quadrat/quadrattop.sameInts -/
theorem fn35 : E0.P.funcs[35]? = some Try.f35 := Try.func35
theorem body35 : Try.f35.body = some (codeOf Try.f35) := by kernel_rfl
theorem ok35 : okFunc Try.f35 = true := by kernel_rfl
theorem kr35 : E0.kr 35 = [(4, false)] := by kernel_rfl
theorem kp35_4 : E0.kp 35 4 = ([(0, false), (1, false), (5, false)], []) := by kernel_rfl
theorem ow35_4 : E0.own 35 4 = [] := by kernel_rfl
theorem lp35_4 : ((E0.P.funcs[35]?).bind fun fn => fn.body.bind (findLoop 4)) = some (loopIn Try.f35 4) := by kernel_rfl
/-! quadrat/overlap.Valid -/
theorem fn38 : E0.P.funcs[38]? = some Try.f38 := Try.func38
theorem body38 : Try.f38.body = some (codeOf Try.f38) := by kernel_rfl
theorem ok38 : okFunc Try.f38 = true := by kernel_rfl
theorem kr38 : E0.kr 38 = [(4, false)] := by kernel_rfl
/-! quadrat/overlap.places -/
theorem fn41 : E0.P.funcs[41]? = some Try.f41 := Try.func41
theorem body41 : Try.f41.body = some (codeOf Try.f41) := by kernel_rfl
theorem ok41 : okFunc Try.f41 = true := by kernel_rfl
theorem kr41 : E0.kr 41 = [(4, false)] := by kernel_rfl
theorem kp41_12 : E0.kp 41 12 = ([(3, false), (5, false), (6, false), (7, false), (8, true), (9, false), (18, false), (19, false), (20, false), (31, false), (32, false), (33, false)], [(3, false), (5, false), (6, false), (7, false), (8, false), (9, false), (18, false), (19, false), (20, false)]) := by kernel_rfl
theorem ow41_12 : E0.own 41 12 = [(5, none, 1)] := by kernel_rfl
theorem lp41_12 : ((E0.P.funcs[41]?).bind fun fn => fn.body.bind (findLoop 12)) = some (loopIn Try.f41 12) := by kernel_rfl
theorem kp41_9 : E0.kp 41 9 = ([(3, false), (5, false), (6, false), (7, false), (8, true), (9, false), (18, false), (19, false), (20, false)], [(3, false), (5, false), (18, false), (19, false), (20, false)]) := by kernel_rfl
theorem ow41_9 : E0.own 41 9 = [(5, none, 1)] := by kernel_rfl
theorem lp41_9 : ((E0.P.funcs[41]?).bind fun fn => fn.body.bind (findLoop 9)) = some (loopIn Try.f41 9) := by kernel_rfl
theorem kp41_5 : E0.kp 41 5 = ([(3, false), (5, false), (18, false), (19, false), (20, false)], [(5, false)]) := by kernel_rfl
theorem ow41_5 : E0.own 41 5 = [(5, none, 1)] := by kernel_rfl
theorem lp41_5 : ((E0.P.funcs[41]?).bind fun fn => fn.body.bind (findLoop 5)) = some (loopIn Try.f41 5) := by kernel_rfl
/-! quadrat/quadratlaw19.set -/
theorem fn46 : E0.P.funcs[46]? = some Try.f46 := Try.func46
theorem body46 : Try.f46.body = some (codeOf Try.f46) := by kernel_rfl
theorem ok46 : okFunc Try.f46 = true := by kernel_rfl
theorem kr46 : E0.kr 46 = [(6, false)] := by kernel_rfl
/-! quadrat/fuse.Why -/
theorem fn47 : E0.P.funcs[47]? = some Try.f47 := Try.func47
theorem body47 : Try.f47.body = some (codeOf Try.f47) := by kernel_rfl
theorem ok47 : okFunc Try.f47 = true := by kernel_rfl
theorem kr47 : E0.kr 47 = [(4, false), (5, false)] := by kernel_rfl
/-! quadrat/fuse.May -/
theorem fn48 : E0.P.funcs[48]? = some Try.f48 := Try.func48
theorem body48 : Try.f48.body = some (codeOf Try.f48) := by kernel_rfl
theorem ok48 : okFunc Try.f48 = true := by kernel_rfl
theorem kr48 : E0.kr 48 = [(4, false), (5, false)] := by kernel_rfl
/-! quadrat/overlap.Many -/
theorem fn39 : E0.P.funcs[39]? = some Try.f39 := Try.func39
theorem body39 : Try.f39.body = some (codeOf Try.f39) := by kernel_rfl
theorem ok39 : okFunc Try.f39 = true := by kernel_rfl
theorem kr39 : E0.kr 39 = [(2, false)] := by kernel_rfl
theorem kp39_5 : E0.kp 39 5 = ([(3, false), (18, false), (19, false), (20, false)], [(3, false)]) := by kernel_rfl
theorem ow39_5 : E0.own 39 5 = [] := by kernel_rfl
theorem lp39_5 : ((E0.P.funcs[39]?).bind fun fn => fn.body.bind (findLoop 5)) = some (loopIn Try.f39 5) := by kernel_rfl
/-! quadrat/overlap.gcd -/
theorem fn49 : E0.P.funcs[49]? = some Try.f49 := Try.func49
theorem body49 : Try.f49.body = some (codeOf Try.f49) := by kernel_rfl
theorem ok49 : okFunc Try.f49 = true := by kernel_rfl
theorem kr49 : E0.kr 49 = [(4, false)] := by kernel_rfl
theorem kp49_1 : E0.kp 49 1 = ([(0, false), (1, false)], [(0, false)]) := by kernel_rfl
theorem ow49_1 : E0.own 49 1 = [] := by kernel_rfl
theorem lp49_1 : ((E0.P.funcs[49]?).bind fun fn => fn.body.bind (findLoop 1)) = some (loopIn Try.f49 1) := by kernel_rfl
/-! quadrat/overlap.ends -/
theorem fn40 : E0.P.funcs[40]? = some Try.f40 := Try.func40
theorem body40 : Try.f40.body = some (codeOf Try.f40) := by kernel_rfl
theorem ok40 : okFunc Try.f40 = true := by kernel_rfl
theorem kr40 : E0.kr 40 = [(4, false), (5, false)] := by kernel_rfl
theorem kp40_3 : E0.kp 40 3 = ([(3, false), (4, false), (5, false), (13, false), (14, false), (15, false)], [(4, false), (5, false)]) := by kernel_rfl
theorem ow40_3 : E0.own 40 3 = [] := by kernel_rfl
theorem lp40_3 : ((E0.P.funcs[40]?).bind fun fn => fn.body.bind (findLoop 3)) = some (loopIn Try.f40 3) := by kernel_rfl
/-! quadrat/overlap.Pairs -/
theorem fn50 : E0.P.funcs[50]? = some Try.f50 := Try.func50
theorem body50 : Try.f50.body = some (codeOf Try.f50) := by kernel_rfl
theorem ok50 : okFunc Try.f50 = true := by kernel_rfl
theorem kr50 : E0.kr 50 = [(6, false), (7, false)] := by kernel_rfl
theorem kp50_16 : E0.kp 50 16 = ([(8, false), (11, false), (12, false), (52, false), (53, false), (54, false), (61, false), (62, false), (63, false)], [(8, false), (11, false), (52, false), (53, false), (54, false)]) := by kernel_rfl
theorem ow50_16 : E0.own 50 16 = [(11, none, 2)] := by kernel_rfl
theorem lp50_16 : ((E0.P.funcs[50]?).bind fun fn => fn.body.bind (findLoop 16)) = some (loopIn Try.f50 16) := by kernel_rfl
theorem kp50_13 : E0.kp 50 13 = ([(8, false), (11, false), (52, false), (53, false), (54, false)], [(11, false)]) := by kernel_rfl
theorem ow50_13 : E0.own 50 13 = [(11, none, 2)] := by kernel_rfl
theorem lp50_13 : ((E0.P.funcs[50]?).bind fun fn => fn.body.bind (findLoop 13)) = some (loopIn Try.f50 13) := by kernel_rfl
theorem kp50_7 : E0.kp 50 7 = ([(0, false), (4, false), (8, false), (34, false), (35, false), (36, false)], [(0, false), (4, false), (8, false)]) := by kernel_rfl
theorem ow50_7 : E0.own 50 7 = [] := by kernel_rfl
theorem lp50_7 : ((E0.P.funcs[50]?).bind fun fn => fn.body.bind (findLoop 7)) = some (loopIn Try.f50 7) := by kernel_rfl
/-! quadrat/section.size -/
theorem fn42 : E0.P.funcs[42]? = some Try.f42 := Try.func42
theorem body42 : Try.f42.body = some (codeOf Try.f42) := by kernel_rfl
theorem ok42 : okFunc Try.f42 = true := by kernel_rfl
theorem kr42 : E0.kr 42 = [(2, false)] := by kernel_rfl
theorem kp42_5 : E0.kp 42 5 = ([(3, false), (13, false), (14, false), (15, false)], [(3, false)]) := by kernel_rfl
theorem ow42_5 : E0.own 42 5 = [] := by kernel_rfl
theorem lp42_5 : ((E0.P.funcs[42]?).bind fun fn => fn.body.bind (findLoop 5)) = some (loopIn Try.f42 5) := by kernel_rfl
/-! slices.ContainsFunc[[]int,int] -/
theorem fn51 : E0.P.funcs[51]? = some Try.f51 := Try.func51
theorem body51 : Try.f51.body = some (codeOf Try.f51) := by kernel_rfl
theorem ok51 : okFunc Try.f51 = true := by kernel_rfl
theorem kr51 : E0.kr 51 = [(4, false)] := by kernel_rfl
/-! quadrat/section.Valid$1 -/
theorem fn52 : E0.P.funcs[52]? = some Try.f52 := Try.func52
theorem body52 : Try.f52.body = some (codeOf Try.f52) := by kernel_rfl
theorem ok52 : okFunc Try.f52 = true := by kernel_rfl
theorem kr52 : E0.kr 52 = [(2, false)] := by kernel_rfl
/-! quadrat/section.ends -/
theorem fn53 : E0.P.funcs[53]? = some Try.f53 := Try.func53
theorem body53 : Try.f53.body = some (codeOf Try.f53) := by kernel_rfl
theorem ok53 : okFunc Try.f53 = true := by kernel_rfl
theorem kr53 : E0.kr 53 = [(2, false), (3, false)] := by kernel_rfl
theorem kp53_3 : E0.kp 53 3 = ([(1, false), (2, false), (3, false), (12, false), (13, false), (14, false)], [(2, false), (3, false)]) := by kernel_rfl
theorem ow53_3 : E0.own 53 3 = [] := by kernel_rfl
theorem lp53_3 : ((E0.P.funcs[53]?).bind fun fn => fn.body.bind (findLoop 3)) = some (loopIn Try.f53 3) := by kernel_rfl
/-! quadrat/section.Share$1 -/
theorem fn54 : E0.P.funcs[54]? = some Try.f54 := Try.func54
theorem body54 : Try.f54.body = some (codeOf Try.f54) := by kernel_rfl
theorem ok54 : okFunc Try.f54 = true := by kernel_rfl
theorem kr54 : E0.kr 54 = [(3, false)] := by kernel_rfl
/-! quadrat/quadratref06.SameInts -/
theorem fn59 : E0.P.funcs[59]? = some Try.f59 := Try.func59
theorem body59 : Try.f59.body = some (codeOf Try.f59) := by kernel_rfl
theorem ok59 : okFunc Try.f59 = true := by kernel_rfl
theorem kr59 : E0.kr 59 = [(4, false)] := by kernel_rfl
theorem kp59_4 : E0.kp 59 4 = ([(0, false), (1, false), (5, false)], []) := by kernel_rfl
theorem ow59_4 : E0.own 59 4 = [] := by kernel_rfl
theorem lp59_4 : ((E0.P.funcs[59]?).bind fun fn => fn.body.bind (findLoop 4)) = some (loopIn Try.f59 4) := by kernel_rfl
/-! quadrat/argue.valid -/
theorem fn60 : E0.P.funcs[60]? = some Try.f60 := Try.func60
theorem body60 : Try.f60.body = some (codeOf Try.f60) := by kernel_rfl
theorem ok60 : okFunc Try.f60 = true := by kernel_rfl
theorem kr60 : E0.kr 60 = [(2, false)] := by kernel_rfl
theorem kp60_4 : E0.kp 60 4 = ([(8, false), (9, false), (10, false)], []) := by kernel_rfl
theorem ow60_4 : E0.own 60 4 = [] := by kernel_rfl
theorem lp60_4 : ((E0.P.funcs[60]?).bind fun fn => fn.body.bind (findLoop 4)) = some (loopIn Try.f60 4) := by kernel_rfl
/-! slices.Clone[[]int,int] -/
theorem fn43 : E0.P.funcs[43]? = some Try.f43 := Try.func43
theorem body43 : Try.f43.body = some (codeOf Try.f43) := by kernel_rfl
theorem ok43 : okFunc Try.f43 = true := by kernel_rfl
theorem kr43 : E0.kr 43 = [(2, false)] := by kernel_rfl
/-! quadrat/section.Size -/
theorem fn61 : E0.P.funcs[61]? = some Try.f61 := Try.func61
theorem body61 : Try.f61.body = some (codeOf Try.f61) := by kernel_rfl
theorem ok61 : okFunc Try.f61 = true := by kernel_rfl
theorem kr61 : E0.kr 61 = [(2, false), (3, false)] := by kernel_rfl
/-! quadrat/section.Whole -/
theorem fn11 : E0.P.funcs[11]? = some Try.f11 := Try.func11
theorem body11 : Try.f11.body = some (codeOf Try.f11) := by kernel_rfl
theorem ok11 : okFunc Try.f11 = true := by kernel_rfl
theorem kr11 : E0.kr 11 = [(2, false), (3, false)] := by kernel_rfl
theorem kp11_6 : E0.kp 11 6 = ([(2, false), (4, false), (5, false), (15, false), (16, false), (17, false)], [(2, false), (4, false)]) := by kernel_rfl
theorem ow11_6 : E0.own 11 6 = [(4, some 2, 1)] := by kernel_rfl
theorem lp11_6 : ((E0.P.funcs[11]?).bind fun fn => fn.body.bind (findLoop 6)) = some (loopIn Try.f11 6) := by kernel_rfl
/-! quadrat/argue.packed -/
theorem fn62 : E0.P.funcs[62]? = some Try.f62 := Try.func62
theorem body62 : Try.f62.body = some (codeOf Try.f62) := by kernel_rfl
theorem ok62 : okFunc Try.f62 = true := by kernel_rfl
theorem kr62 : E0.kr 62 = [(2, false)] := by kernel_rfl
/-! quadrat/argue.all -/
theorem fn63 : E0.P.funcs[63]? = some Try.f63 := Try.func63
theorem body63 : Try.f63.body = some (codeOf Try.f63) := by kernel_rfl
theorem ok63 : okFunc Try.f63 = true := by kernel_rfl
theorem kr63 : E0.kr 63 = [(4, false)] := by kernel_rfl
theorem kp63_5 : E0.kp 63 5 = ([(0, false), (15, false), (16, false), (17, false)], []) := by kernel_rfl
theorem ow63_5 : E0.own 63 5 = [] := by kernel_rfl
theorem lp63_5 : ((E0.P.funcs[63]?).bind fun fn => fn.body.bind (findLoop 5)) = some (loopIn Try.f63 5) := by kernel_rfl
/-! quadrat/argue.Pack -/
theorem fn64 : E0.P.funcs[64]? = some Try.f64 := Try.func64
theorem body64 : Try.f64.body = some (codeOf Try.f64) := by kernel_rfl
theorem ok64 : okFunc Try.f64 = true := by kernel_rfl
theorem kr64 : E0.kr 64 = [(4, false), (5, false)] := by kernel_rfl
theorem kp64_8 : E0.kp 64 8 = ([(0, false), (8, false), (23, false), (24, false), (25, false)], [(8, false)]) := by kernel_rfl
theorem ow64_8 : E0.own 64 8 = [(8, none, 1)] := by kernel_rfl
theorem lp64_8 : ((E0.P.funcs[64]?).bind fun fn => fn.body.bind (findLoop 8)) = some (loopIn Try.f64 8) := by kernel_rfl
/-! quadrat/argue.asked -/
theorem fn65 : E0.P.funcs[65]? = some Try.f65 := Try.func65
theorem body65 : Try.f65.body = some (codeOf Try.f65) := by kernel_rfl
theorem ok65 : okFunc Try.f65 = true := by kernel_rfl
theorem kr65 : E0.kr 65 = [(4, false), (5, false)] := by kernel_rfl
/-! quadrat/argue.Unpack -/
theorem fn66 : E0.P.funcs[66]? = some Try.f66 := Try.func66
theorem body66 : Try.f66.body = some (codeOf Try.f66) := by kernel_rfl
theorem ok66 : okFunc Try.f66 = true := by kernel_rfl
theorem kr66 : E0.kr 66 = [(6, false), (7, false)] := by kernel_rfl
theorem kp66_10 : E0.kp 66 10 = ([(2, false), (10, false), (34, false), (35, false), (36, false)], [(10, false)]) := by kernel_rfl
theorem ow66_10 : E0.own 66 10 = [] := by kernel_rfl
theorem lp66_10 : ((E0.P.funcs[66]?).bind fun fn => fn.body.bind (findLoop 10)) = some (loopIn Try.f66 10) := by kernel_rfl
/-! slices.Clone[[]quadrat/api.Pass,quadrat/api.Pass] -/
theorem fn67 : E0.P.funcs[67]? = some Try.f67 := Try.func67
theorem body67 : Try.f67.body = some (codeOf Try.f67) := by kernel_rfl
theorem ok67 : okFunc Try.f67 = true := by kernel_rfl
theorem kr67 : E0.kr 67 = [(2, false)] := by kernel_rfl
/-! slices.Equal[[]int,int] -/
theorem fn68 : E0.P.funcs[68]? = some Try.f68 := Try.func68
theorem body68 : Try.f68.body = some (codeOf Try.f68) := by kernel_rfl
theorem ok68 : okFunc Try.f68 = true := by kernel_rfl
theorem kr68 : E0.kr 68 = [(4, false)] := by kernel_rfl
theorem kp68_4 : E0.kp 68 4 = ([(0, false), (1, false), (12, false), (13, false)], []) := by kernel_rfl
theorem ow68_4 : E0.own 68 4 = [] := by kernel_rfl
theorem lp68_4 : ((E0.P.funcs[68]?).bind fun fn => fn.body.bind (findLoop 4)) = some (loopIn Try.f68 4) := by kernel_rfl
/-! quadrat/overlap.isNumber -/
theorem fn72 : E0.P.funcs[72]? = some Try.f72 := Try.func72
theorem body72 : Try.f72.body = some (codeOf Try.f72) := by kernel_rfl
theorem ok72 : okFunc Try.f72 = true := by kernel_rfl
theorem kr72 : E0.kr 72 = [(2, false)] := by kernel_rfl
/-! quadrat/overlap.Valid$1 -/
theorem fn73 : E0.P.funcs[73]? = some Try.f73 := Try.func73
theorem body73 : Try.f73.body = some (codeOf Try.f73) := by kernel_rfl
theorem ok73 : okFunc Try.f73 = true := by kernel_rfl
theorem kr73 : E0.kr 73 = [(2, false)] := by kernel_rfl
/-! quadrat/fuse.isKernel -/
theorem fn76 : E0.P.funcs[76]? = some Try.f76 := Try.func76
theorem body76 : Try.f76.body = some (codeOf Try.f76) := by kernel_rfl
theorem ok76 : okFunc Try.f76 = true := by kernel_rfl
theorem kr76 : E0.kr 76 = [(2, false)] := by kernel_rfl
/-! quadrat/fuse.why -/
theorem fn77 : E0.P.funcs[77]? = some Try.f77 := Try.func77
theorem body77 : Try.f77.body = some (codeOf Try.f77) := by kernel_rfl
theorem ok77 : okFunc Try.f77 = true := by kernel_rfl
theorem kr77 : E0.kr 77 = [(4, false)] := by kernel_rfl
theorem kp77_9 : E0.kp 77 9 = ([(2, false), (3, false), (5, false), (26, false), (27, false), (32, false), (33, false)], [(2, false), (3, false), (26, false), (27, false)]) := by kernel_rfl
theorem ow77_9 : E0.own 77 9 = [] := by kernel_rfl
theorem lp77_9 : ((E0.P.funcs[77]?).bind fun fn => fn.body.bind (findLoop 9)) = some (loopIn Try.f77 9) := by kernel_rfl
theorem kp77_6 : E0.kp 77 6 = ([(2, false), (3, false), (26, false), (27, false)], []) := by kernel_rfl
theorem ow77_6 : E0.own 77 6 = [] := by kernel_rfl
theorem lp77_6 : ((E0.P.funcs[77]?).bind fun fn => fn.body.bind (findLoop 6)) = some (loopIn Try.f77 6) := by kernel_rfl
/-! quadrat/overlap.Many$1 -/
theorem fn74 : E0.P.funcs[74]? = some Try.f74 := Try.func74
theorem body74 : Try.f74.body = some (codeOf Try.f74) := by kernel_rfl
theorem ok74 : okFunc Try.f74 = true := by kernel_rfl
theorem kr74 : E0.kr 74 = [(2, false)] := by kernel_rfl
/-! quadrat/section.size$1 -/
theorem fn75 : E0.P.funcs[75]? = some Try.f75 := Try.func75
theorem body75 : Try.f75.body = some (codeOf Try.f75) := by kernel_rfl
theorem ok75 : okFunc Try.f75 = true := by kernel_rfl
theorem kr75 : E0.kr 75 = [(2, false)] := by kernel_rfl
/-! slices.IndexFunc[[]int,int] -/
theorem fn78 : E0.P.funcs[78]? = some Try.f78 := Try.func78
theorem body78 : Try.f78.body = some (codeOf Try.f78) := by kernel_rfl
theorem ok78 : okFunc Try.f78 = true := by kernel_rfl
theorem kr78 : E0.kr 78 = [(4, false)] := by kernel_rfl
theorem kp78_2 : E0.kp 78 2 = ([(0, false), (1, false), (7, false), (8, false)], []) := by kernel_rfl
theorem ow78_2 : E0.own 78 2 = [] := by kernel_rfl
theorem lp78_2 : ((E0.P.funcs[78]?).bind fun fn => fn.body.bind (findLoop 2)) = some (loopIn Try.f78 2) := by kernel_rfl
/-! quadrat/section.isNumber -/
theorem fn37 : E0.P.funcs[37]? = some Try.f37 := Try.func37
theorem body37 : Try.f37.body = some (codeOf Try.f37) := by kernel_rfl
theorem ok37 : okFunc Try.f37 = true := by kernel_rfl
theorem kr37 : E0.kr 37 = [(2, false)] := by kernel_rfl
/-! slices.Contains[[]string,string] -/
theorem fn83 : E0.P.funcs[83]? = some Try.f83 := Try.func83
theorem body83 : Try.f83.body = some (codeOf Try.f83) := by kernel_rfl
theorem ok83 : okFunc Try.f83 = true := by kernel_rfl
theorem kr83 : E0.kr 83 = [(4, false)] := by kernel_rfl
/-! quadrat/section.Contiguous -/
theorem fn84 : E0.P.funcs[84]? = some Try.f84 := Try.func84
theorem body84 : Try.f84.body = some (codeOf Try.f84) := by kernel_rfl
theorem ok84 : okFunc Try.f84 = true := by kernel_rfl
theorem kr84 : E0.kr 84 = [(2, false), (3, false)] := by kernel_rfl
theorem kp84_5 : E0.kp 84 5 = ([(4, false), (6, false)], []) := by kernel_rfl
theorem ow84_5 : E0.own 84 5 = [] := by kernel_rfl
theorem lp84_5 : ((E0.P.funcs[84]?).bind fun fn => fn.body.bind (findLoop 5)) = some (loopIn Try.f84 5) := by kernel_rfl
/-! quadrat/argue.asked$1 -/
theorem fn85 : E0.P.funcs[85]? = some Try.f85 := Try.func85
theorem body85 : Try.f85.body = some (codeOf Try.f85) := by kernel_rfl
theorem ok85 : okFunc Try.f85 = true := by kernel_rfl
theorem kr85 : E0.kr 85 = [(3, false)] := by kernel_rfl
/-! quadrat/kernel.Formed -/
theorem fn87 : E0.P.funcs[87]? = some Try.f87 := Try.func87
theorem body87 : Try.f87.body = some (codeOf Try.f87) := by kernel_rfl
theorem ok87 : okFunc Try.f87 = true := by kernel_rfl
theorem kr87 : E0.kr 87 = [(2, false)] := by kernel_rfl
theorem kp87_4 : E0.kp 87 4 = ([(1, false), (10, false), (11, false), (12, false)], []) := by kernel_rfl
theorem ow87_4 : E0.own 87 4 = [] := by kernel_rfl
theorem lp87_4 : ((E0.P.funcs[87]?).bind fun fn => fn.body.bind (findLoop 4)) = some (loopIn Try.f87 4) := by kernel_rfl
/-! quadrat/fuse.hinders -/
theorem fn88 : E0.P.funcs[88]? = some Try.f88 := Try.func88
theorem body88 : Try.f88.body = some (codeOf Try.f88) := by kernel_rfl
theorem kr88 : E0.kr 88 = [(8, false)] := by kernel_rfl
/-! slices.Index[[]string,string] -/
theorem fn101 : E0.P.funcs[101]? = some Try.f101 := Try.func101
theorem body101 : Try.f101.body = some (codeOf Try.f101) := by kernel_rfl
theorem ok101 : okFunc Try.f101 = true := by kernel_rfl
theorem kr101 : E0.kr 101 = [(4, false)] := by kernel_rfl
theorem kp101_2 : E0.kp 101 2 = ([(0, false), (1, false), (7, false), (8, false)], []) := by kernel_rfl
theorem ow101_2 : E0.own 101 2 = [] := by kernel_rfl
theorem lp101_2 : ((E0.P.funcs[101]?).bind fun fn => fn.body.bind (findLoop 2)) = some (loopIn Try.f101 2) := by kernel_rfl
/-! slices.ContainsFunc[[]quadrat/api.Ref,quadrat/api.Ref] -/
theorem fn103 : E0.P.funcs[103]? = some Try.f103 := Try.func103
theorem body103 : Try.f103.body = some (codeOf Try.f103) := by kernel_rfl
theorem ok103 : okFunc Try.f103 = true := by kernel_rfl
theorem kr103 : E0.kr 103 = [(4, false)] := by kernel_rfl
/-! quadrat/kernel.setLoads -/
theorem fn104 : E0.P.funcs[104]? = some Try.f104 := Try.func104
theorem body104 : Try.f104.body = some (codeOf Try.f104) := by kernel_rfl
theorem ok104 : okFunc Try.f104 = true := by kernel_rfl
theorem kr104 : E0.kr 104 = [(2, false)] := by kernel_rfl
theorem kp104_3 : E0.kp 104 3 = ([(1, false), (3, false), (7, false), (8, false), (9, false)], [(1, false), (3, false)]) := by kernel_rfl
theorem ow104_3 : E0.own 104 3 = [(3, none, 3)] := by kernel_rfl
theorem lp104_3 : ((E0.P.funcs[104]?).bind fun fn => fn.body.bind (findLoop 3)) = some (loopIn Try.f104 3) := by kernel_rfl
/-! quadrat/kernel.Formed$1 -/
theorem fn105 : E0.P.funcs[105]? = some Try.f105 := Try.func105
theorem body105 : Try.f105.body = some (codeOf Try.f105) := by kernel_rfl
theorem ok105 : okFunc Try.f105 = true := by kernel_rfl
theorem kr105 : E0.kr 105 = [(3, false)] := by kernel_rfl
/-! quadrat/kernel.Loads -/
theorem fn106 : E0.P.funcs[106]? = some Try.f106 := Try.func106
theorem body106 : Try.f106.body = some (codeOf Try.f106) := by kernel_rfl
theorem ok106 : okFunc Try.f106 = true := by kernel_rfl
theorem kr106 : E0.kr 106 = [(4, false), (5, false)] := by kernel_rfl
theorem kp106_5 : E0.kp 106 5 = ([(6, false), (28, false), (29, false), (30, false)], [(6, false)]) := by kernel_rfl
theorem ow106_5 : E0.own 106 5 = [(6, none, 3)] := by kernel_rfl
theorem lp106_5 : ((E0.P.funcs[106]?).bind fun fn => fn.body.bind (findLoop 5)) = some (loopIn Try.f106 5) := by kernel_rfl
/-! quadrat/fuse.part -/
theorem fn107 : E0.P.funcs[107]? = some Try.f107 := Try.func107
theorem body107 : Try.f107.body = some (codeOf Try.f107) := by kernel_rfl
theorem ok107 : okFunc Try.f107 = true := by kernel_rfl
theorem kr107 : E0.kr 107 = [(4, false)] := by kernel_rfl
/-! quadrat/fuse.hinders$1 -/
theorem fn108 : E0.P.funcs[108]? = some Try.f108 := Try.func108
theorem body108 : Try.f108.body = some (codeOf Try.f108) := by kernel_rfl
theorem ok108 : okFunc Try.f108 = true := by kernel_rfl
theorem kr108 : E0.kr 108 = [(4, false)] := by kernel_rfl
/-! quadrat/fuse.earlier -/
theorem fn109 : E0.P.funcs[109]? = some Try.f109 := Try.func109
theorem body109 : Try.f109.body = some (codeOf Try.f109) := by kernel_rfl
theorem ok109 : okFunc Try.f109 = true := by kernel_rfl
theorem kr109 : E0.kr 109 = [(6, false)] := by kernel_rfl
/-! quadrat/fuse.hinders$2 -/
theorem fn110 : E0.P.funcs[110]? = some Try.f110 := Try.func110
theorem body110 : Try.f110.body = some (codeOf Try.f110) := by kernel_rfl
theorem ok110 : okFunc Try.f110 = true := by kernel_rfl
theorem kr110 : E0.kr 110 = [(4, false)] := by kernel_rfl
/-! slices.IndexFunc[[]quadrat/api.Ref,quadrat/api.Ref] -/
theorem fn117 : E0.P.funcs[117]? = some Try.f117 := Try.func117
theorem body117 : Try.f117.body = some (codeOf Try.f117) := by kernel_rfl
theorem ok117 : okFunc Try.f117 = true := by kernel_rfl
theorem kr117 : E0.kr 117 = [(4, false)] := by kernel_rfl
theorem kp117_2 : E0.kp 117 2 = ([(0, false), (1, false), (7, false), (8, false)], []) := by kernel_rfl
theorem ow117_2 : E0.own 117 2 = [] := by kernel_rfl
theorem lp117_2 : ((E0.P.funcs[117]?).bind fun fn => fn.body.bind (findLoop 2)) = some (loopIn Try.f117 2) := by kernel_rfl
/-! quadrat/kernel.loads -/
theorem fn118 : E0.P.funcs[118]? = some Try.f118 := Try.func118
theorem body118 : Try.f118.body = some (codeOf Try.f118) := by kernel_rfl
theorem ok118 : okFunc Try.f118 = true := by kernel_rfl
theorem kr118 : E0.kr 118 = [(2, false)] := by kernel_rfl
theorem kp118_3 : E0.kp 118 3 = ([(1, false), (3, false), (7, false), (8, false), (9, false)], [(1, false), (3, false)]) := by kernel_rfl
theorem ow118_3 : E0.own 118 3 = [(3, none, 3)] := by kernel_rfl
theorem lp118_3 : ((E0.P.funcs[118]?).bind fun fn => fn.body.bind (findLoop 3)) = some (loopIn Try.f118 3) := by kernel_rfl
/-! quadrat/kernel.cloneRef -/
theorem fn119 : E0.P.funcs[119]? = some Try.f119 := Try.func119
theorem body119 : Try.f119.body = some (codeOf Try.f119) := by kernel_rfl
theorem ok119 : okFunc Try.f119 = true := by kernel_rfl
theorem kr119 : E0.kr 119 = [(2, false)] := by kernel_rfl
/-! quadrat/fuse.ends -/
theorem fn120 : E0.P.funcs[120]? = some Try.f120 := Try.func120
theorem body120 : Try.f120.body = some (codeOf Try.f120) := by kernel_rfl
theorem ok120 : okFunc Try.f120 = true := by kernel_rfl
theorem kr120 : E0.kr 120 = [(6, false), (7, false), (8, false)] := by kernel_rfl
/-! quadrat/overlap.Distances -/
theorem fn122 : E0.P.funcs[122]? = some Try.f122 := Try.func122
theorem body122 : Try.f122.body = some (codeOf Try.f122) := by kernel_rfl
theorem ok122 : okFunc Try.f122 = true := by kernel_rfl
theorem kr122 : E0.kr 122 = [(6, false), (7, false)] := by kernel_rfl
theorem kp122_6 : E0.kp 122 6 = ([(10, false), (23, false), (24, false), (25, false)], [(10, false)]) := by kernel_rfl
theorem ow122_6 : E0.own 122 6 = [(10, none, 1)] := by kernel_rfl
theorem lp122_6 : ((E0.P.funcs[122]?).bind fun fn => fn.body.bind (findLoop 6)) = some (loopIn Try.f122 6) := by kernel_rfl
end Go.Proofs.Ytnbijiopcgfmfaa.Tev
