/- What the evaluator asks of this program: types, functions, loops (printed by wip/tools/tx.py; every equation checked by the kernel). -/
import Derived.Test.YticjlkommabcjaaProg
import Derived.Test.YticjlkommabcjaaTevSl
import Derived.KernelRfl
namespace Go.Proofs.Yticjlkommabcjaa.Tev
open Go Go.RowKit Go.Proofs
set_option maxRecDepth 100000
set_option linter.unusedVariables false
set_option linter.unusedSimpArgs false
set_option linter.unusedSectionVars false
structure LpRow where
  f : Nat
  id : Nat
  k1 : Keep
  k2 : Keep
  ow : List (Nat × Option Nat × Nat)
def rows : List LpRow := [
  ⟨11, 4, [(1, false), (2, false), (5, false)], [(1, false), (2, false)], []⟩,
  ⟨22, 4, [(0, false), (1, false), (5, false)], [], []⟩,
  ⟨39, 20, [(2, false), (6, false), (9, false), (11, false), (13, false), (41, false), (42, false), (43, false), (54, false), (55, false), (56, false), (60, false), (61, false), (62, false)], [(2, false), (6, false), (9, false), (11, false), (41, false), (42, false), (43, false), (54, false), (55, false), (56, false)], [(11, none, 1)]⟩,
  ⟨39, 17, [(2, false), (6, false), (9, false), (11, false), (41, false), (42, false), (43, false), (54, false), (55, false), (56, false)], [(2, false), (11, false), (41, false), (42, false), (43, false)], [(11, none, 1)]⟩,
  ⟨39, 11, [(2, false), (6, false), (41, false), (42, false), (43, false)], [(6, false)], []⟩,
  ⟨39, 5, [(1, false), (2, false), (6, false), (30, false), (31, false), (32, false)], [(1, false), (2, false), (6, false)], []⟩,
  ⟨40, 22, [(1, false), (2, false), (8, false), (9, false), (10, false), (11, false), (12, false)], [(1, false), (2, false), (8, false), (9, false), (10, false), (11, false)], [(10, none, 1)]⟩,
  ⟨40, 19, [(1, false), (2, false), (8, false), (9, false), (10, false), (11, false)], [(1, false), (2, false), (9, false), (10, false)], [(10, none, 1)]⟩,
  ⟨40, 13, [(1, false), (2, false), (8, false), (9, false)], [(8, false)], []⟩,
  ⟨40, 7, [(1, false), (2, false), (6, false), (7, false)], [(1, false), (2, false), (6, false)], []⟩,
  ⟨40, 4, [(1, false), (2, false), (6, false)], [(1, false), (2, false)], []⟩,
  ⟨42, 3, [(0, false), (3, false), (4, false)], [], []⟩,
  ⟨33, 7, [(8, false), (10, false), (30, false), (31, false), (32, false)], [(8, false), (10, false)], []⟩,
  ⟨34, 11, [(6, false), (7, false), (9, false)], [], []⟩,
  ⟨34, 6, [(3, false), (6, false), (7, false), (8, false)], [(3, false), (6, false)], []⟩,
  ⟨15, 12, [(2, false), (4, false), (10, false), (56, false), (57, false), (58, false)], [(2, false), (4, false), (10, false)], [(10, some 1, 1), (10, some 2, 1)]⟩,
  ⟨15, 4, [(1, false), (2, false), (4, false), (31, false), (32, false), (33, false)], [(1, false), (2, false), (4, false)], []⟩,
  ⟨31, 6, [(2, false), (4, false), (5, false), (15, false), (16, false), (17, false)], [(2, false), (4, false)], [(4, some 2, 1)]⟩,
  ⟨24, 10, [(4, false), (5, false)], [], []⟩,
  ⟨24, 4, [(1, false), (3, false)], [(1, false)], []⟩,
  ⟨46, 5, [(3, false), (13, false), (14, false), (15, false)], [(3, false)], []⟩,
  ⟨25, 14, [(1, false), (4, false), (5, false), (6, false), (7, true), (8, false), (22, false), (23, false), (24, false), (35, false), (36, false), (37, false)], [(1, false), (4, false), (5, false), (6, false), (7, false), (8, false), (22, false), (23, false), (24, false)], [(4, none, 1)]⟩,
  ⟨25, 11, [(1, false), (4, false), (5, false), (6, false), (7, true), (8, false), (22, false), (23, false), (24, false)], [(1, false), (4, false), (22, false), (23, false), (24, false)], [(4, none, 1)]⟩,
  ⟨25, 7, [(1, false), (4, false), (22, false), (23, false), (24, false)], [(4, false)], [(4, none, 1)]⟩,
  ⟨52, 12, [(1, false), (3, false), (4, false), (5, false), (6, false), (7, false)], [(1, false), (3, false), (4, false), (5, false), (6, false)], [(5, none, 1)]⟩,
  ⟨52, 9, [(1, false), (3, false), (4, false), (5, false), (6, false)], [(1, false), (4, false), (5, false)], [(5, none, 1)]⟩,
  ⟨52, 5, [(1, false), (3, false), (4, false)], [(3, false)], []⟩,
  ⟨50, 3, [(1, false), (2, false), (3, false), (12, false), (13, false), (14, false)], [(2, false), (3, false)], []⟩,
  ⟨61, 2, [(0, false), (1, false), (7, false), (8, false)], [], []⟩,
  ⟨47, 5, [(0, false), (3, false), (4, false)], [(3, false)], []⟩]
def rowOf : List LpRow → Nat → Nat → LpRow
  | [], _, _ => ⟨0, 0, [], [], []⟩
  | r :: l, f, id => bif r.f == f && r.id == id then r else rowOf l f id
def rets : List (Nat × Keep) := [(11, [(4, false)]), (8, [(4, false)]), (14, [(0, false)]), (22, [(4, false)]), (39, [(4, false), (5, false)]), (40, [(4, false), (5, false)]), (41, [(2, false)]), (42, [(2, false)]), (27, [(2, false), (3, false)]), (33, [(4, false), (5, false)]), (34, [(4, false), (5, false)]), (15, [(4, false), (5, false)]), (31, [(2, false), (3, false)]), (23, [(2, false)]), (48, [(4, false)]), (56, [(4, false)]), (24, [(2, false)]), (46, [(2, false)]), (25, [(2, false), (3, false)]), (54, [(3, false)]), (52, [(2, false)]), (12, [(2, false), (3, false)]), (53, [(2, false)]), (49, [(2, false)]), (50, [(2, false), (3, false)]), (61, [(4, false)]), (47, [(2, false)]), (51, [(2, false)]), (60, [(2, false)]), (43, [(2, false)])]
def retOf : List (Nat × Keep) → Nat → Keep
  | [], _ => []
  | r :: l, f => bif r.1 == f then r.2 else retOf l f
noncomputable def E0 : Env := ⟨Try.prog, fun f id => let r := rowOf rows f id; (r.k1, r.k2), fun f id => (rowOf rows f id).ow, fun f => retOf rets f, fun f id => []⟩
theorem E0fz (f id : Nat) : E0.fz f id = [] := rfl
theorem E0P : E0.P = Try.prog := rfl
def codeOf (fn : Func) : Code := fn.body.getD .skip
def loopIn (fn : Func) (id : Nat) : Code := (fn.body.bind (findLoop id)).getD .skip
theorem ty3 : szOf Try.prog 3 = some 1 ∧ bytesOf Try.prog 3 = some 8 ∧ zeroOf Try.prog 3 = some [.c (.v (.int .i64 0))] ∧ aggOf Try.prog 3 = some false ∧ zero1 Try.prog 3 = some (.c (.v (.int .i64 0))) ∧ cellTys Try.prog 8 3 = some [none] := ⟨by kernel_rfl, by kernel_rfl, by kernel_rfl, by kernel_rfl, by kernel_rfl, by kernel_rfl⟩
theorem ty4 : szOf Try.prog 4 = some 1 ∧ bytesOf Try.prog 4 = some 1 ∧ zeroOf Try.prog 4 = some [B false] ∧ aggOf Try.prog 4 = some false ∧ zero1 Try.prog 4 = some (B false) ∧ Try.prog.underlying 4 = some .bool ∧ cellTys Try.prog 8 4 = some [none] := ⟨by kernel_rfl, by kernel_rfl, by kernel_rfl, by kernel_rfl, by kernel_rfl, by kernel_rfl, by kernel_rfl⟩
theorem ty23 : szOf Try.prog 23 = some 3 ∧ bytesOf Try.prog 23 = some 24 ∧ zeroOf Try.prog 23 = some [.c (.v (.int .i64 0)), .c (.v (.int .i64 0)), .c (.v (.int .i64 0))] ∧ aggOf Try.prog 23 = some true ∧ fieldOf Try.prog 23 0 = some (0, 3) ∧ fieldOf Try.prog 23 1 = some (1, 3) ∧ fieldOf Try.prog 23 2 = some (2, 3) ∧ placesOf Try.prog 23 = some (.st [(0, 1), (1, 1), (2, 1)]) ∧ cellTys Try.prog 8 23 = some [none, none, none] := ⟨by kernel_rfl, by kernel_rfl, by kernel_rfl, by kernel_rfl, by kernel_rfl, by kernel_rfl, by kernel_rfl, by kernel_rfl, by kernel_rfl⟩
theorem ty24 : szOf Try.prog 24 = some 1 ∧ bytesOf Try.prog 24 = some 8 ∧ zeroOf Try.prog 24 = some [.c (.v (.int .i64 0))] ∧ aggOf Try.prog 24 = some false ∧ zero1 Try.prog 24 = some (.c (.v (.int .i64 0))) ∧ cellTys Try.prog 8 24 = some [none] := ⟨by kernel_rfl, by kernel_rfl, by kernel_rfl, by kernel_rfl, by kernel_rfl, by kernel_rfl⟩
theorem ty29 : szOf Try.prog 29 = some 1 ∧ bytesOf Try.prog 29 = some 24 ∧ zeroOf Try.prog 29 = some [.c (.s (some 0) 0 [])] ∧ aggOf Try.prog 29 = some false ∧ zero1 Try.prog 29 = some (.c (.s (some 0) 0 [])) ∧ elemOf Try.prog 29 = some 3 ∧ Try.prog.underlying 29 = some (.slice 3) ∧ cellTys Try.prog 8 29 = some [some 1] := ⟨by kernel_rfl, by kernel_rfl, by kernel_rfl, by kernel_rfl, by kernel_rfl, by kernel_rfl, by kernel_rfl, by kernel_rfl⟩
theorem ty31 : szOf Try.prog 31 = some 3 ∧ bytesOf Try.prog 31 = some 56 ∧ zeroOf Try.prog 31 = some [.c (.v (.int .i64 0)), .c (.s (some 0) 0 []), .c (.s (some 0) 0 [])] ∧ aggOf Try.prog 31 = some true ∧ fieldOf Try.prog 31 0 = some (0, 3) ∧ fieldOf Try.prog 31 1 = some (1, 29) ∧ fieldOf Try.prog 31 2 = some (2, 29) ∧ placesOf Try.prog 31 = some (.st [(0, 1), (1, 1), (2, 1)]) ∧ cellTys Try.prog 8 31 = some [none, some 1, some 1] := ⟨by kernel_rfl, by kernel_rfl, by kernel_rfl, by kernel_rfl, by kernel_rfl, by kernel_rfl, by kernel_rfl, by kernel_rfl, by kernel_rfl⟩
theorem ty32 : szOf Try.prog 32 = some 1 ∧ bytesOf Try.prog 32 = some 24 ∧ zeroOf Try.prog 32 = some [.c (.s (some 0) 0 [])] ∧ aggOf Try.prog 32 = some false ∧ zero1 Try.prog 32 = some (.c (.s (some 0) 0 [])) ∧ elemOf Try.prog 32 = some 58 ∧ Try.prog.underlying 32 = some (.slice 58) ∧ cellTys Try.prog 8 32 = some [some 5] := ⟨by kernel_rfl, by kernel_rfl, by kernel_rfl, by kernel_rfl, by kernel_rfl, by kernel_rfl, by kernel_rfl, by kernel_rfl⟩
theorem ty51 : szOf Try.prog 51 = some 1 ∧ bytesOf Try.prog 51 = some 24 ∧ zeroOf Try.prog 51 = some [.c (.s (some 0) 0 [])] ∧ aggOf Try.prog 51 = some false ∧ zero1 Try.prog 51 = some (.c (.s (some 0) 0 [])) ∧ elemOf Try.prog 51 = some 29 ∧ Try.prog.underlying 51 = some (.slice 29) ∧ cellTys Try.prog 8 51 = some [some 1] := ⟨by kernel_rfl, by kernel_rfl, by kernel_rfl, by kernel_rfl, by kernel_rfl, by kernel_rfl, by kernel_rfl, by kernel_rfl⟩
theorem ty58 : szOf Try.prog 58 = some 5 ∧ bytesOf Try.prog 58 = some 40 ∧ zeroOf Try.prog 58 = some [B false, .c (.v (.int .i64 0)), .c (.v (.int .i64 0)), .c (.v (.int .i64 0)), .c (.v (.int .i64 0))] ∧ aggOf Try.prog 58 = some true ∧ fieldOf Try.prog 58 0 = some (0, 4) ∧ fieldOf Try.prog 58 1 = some (1, 3) ∧ fieldOf Try.prog 58 2 = some (2, 23) ∧ placesOf Try.prog 58 = some (.st [(0, 1), (1, 1), (2, 3)]) ∧ cellTys Try.prog 8 58 = some [none, none, none, none, none] := ⟨by kernel_rfl, by kernel_rfl, by kernel_rfl, by kernel_rfl, by kernel_rfl, by kernel_rfl, by kernel_rfl, by kernel_rfl, by kernel_rfl⟩
theorem ty65 : szOf Try.prog 65 = some 1 ∧ bytesOf Try.prog 65 = some 8 ∧ zeroOf Try.prog 65 = some [.junk] ∧ aggOf Try.prog 65 = some false ∧ zero1 Try.prog 65 = some (.junk) ∧ isIntMap Try.prog 65 = some 4 ∧ Try.prog.underlying 65 = some (.map 3 4) ∧ cellTys Try.prog 8 65 = some [none] := ⟨by kernel_rfl, by kernel_rfl, by kernel_rfl, by kernel_rfl, by kernel_rfl, by kernel_rfl, by kernel_rfl, by kernel_rfl⟩
theorem tb4 : (∀ x y a b, bin2 Try.prog .eql 4 x y (.c (.v (.bool a))) (.c (.v (.bool b))) = some (B (decide (a = b)))) ∧ ∀ x y a b, bin2 Try.prog .neq 4 x y (.c (.v (.bool a))) (.c (.v (.bool b))) = some (B (decide (¬ a = b))) := ⟨fun x y a b => bin_eqlB (by kernel_rfl) x y a b, fun x y a b => bin_neqB (by kernel_rfl) x y a b⟩
/-! quadrat/quadratlaw06.SectionPicks -/
theorem fn11 : E0.P.funcs[11]? = some Try.f11 := Try.func11
theorem body11 : Try.f11.body = some (codeOf Try.f11) := by kernel_rfl
theorem ok11 : okFunc Try.f11 = true := by kernel_rfl
theorem kr11 : E0.kr 11 = [(4, false)] := by kernel_rfl
theorem kp11_4 : E0.kp 11 4 = ([(1, false), (2, false), (5, false)], [(1, false), (2, false)]) := by kernel_rfl
theorem ow11_4 : E0.own 11 4 = [] := by kernel_rfl
theorem lp11_4 : ((E0.P.funcs[11]?).bind fun fn => fn.body.bind (findLoop 4)) = some (loopIn Try.f11 4) := by kernel_rfl
/-! quadrat/quadratlaw06.SectionShares -/
theorem fn8 : E0.P.funcs[8]? = some Try.f8 := Try.func8
theorem body8 : Try.f8.body = some (codeOf Try.f8) := by kernel_rfl
theorem ok8 : okFunc Try.f8 = true := by kernel_rfl
theorem kr8 : E0.kr 8 = [(4, false)] := by kernel_rfl
/-! quadrat/quadratlaw06.Awake -/
theorem fn14 : E0.P.funcs[14]? = some Try.f14 := Try.func14
theorem body14 : Try.f14.body = some (codeOf Try.f14) := by kernel_rfl
theorem ok14 : okFunc Try.f14 = true := by kernel_rfl
theorem kr14 : E0.kr 14 = [(0, false)] := by kernel_rfl
/-! quadrat/quadratref06.SameInts -/
theorem fn22 : E0.P.funcs[22]? = some Try.f22 := Try.func22
theorem body22 : Try.f22.body = some (codeOf Try.f22) := by kernel_rfl
theorem ok22 : okFunc Try.f22 = true := by kernel_rfl
theorem kr22 : E0.kr 22 = [(4, false)] := by kernel_rfl
theorem kp22_4 : E0.kp 22 4 = ([(0, false), (1, false), (5, false)], []) := by kernel_rfl
theorem ow22_4 : E0.own 22 4 = [] := by kernel_rfl
theorem lp22_4 : ((E0.P.funcs[22]?).bind fun fn => fn.body.bind (findLoop 4)) = some (loopIn Try.f22 4) := by kernel_rfl
/-! quadrat/section.Pick -/
theorem fn39 : E0.P.funcs[39]? = some Try.f39 := Try.func39
theorem body39 : Try.f39.body = some (codeOf Try.f39) := by kernel_rfl
theorem ok39 : okFunc Try.f39 = true := by kernel_rfl
theorem kr39 : E0.kr 39 = [(4, false), (5, false)] := by kernel_rfl
theorem kp39_20 : E0.kp 39 20 = ([(2, false), (6, false), (9, false), (11, false), (13, false), (41, false), (42, false), (43, false), (54, false), (55, false), (56, false), (60, false), (61, false), (62, false)], [(2, false), (6, false), (9, false), (11, false), (41, false), (42, false), (43, false), (54, false), (55, false), (56, false)]) := by kernel_rfl
theorem ow39_20 : E0.own 39 20 = [(11, none, 1)] := by kernel_rfl
theorem lp39_20 : ((E0.P.funcs[39]?).bind fun fn => fn.body.bind (findLoop 20)) = some (loopIn Try.f39 20) := by kernel_rfl
theorem kp39_17 : E0.kp 39 17 = ([(2, false), (6, false), (9, false), (11, false), (41, false), (42, false), (43, false), (54, false), (55, false), (56, false)], [(2, false), (11, false), (41, false), (42, false), (43, false)]) := by kernel_rfl
theorem ow39_17 : E0.own 39 17 = [(11, none, 1)] := by kernel_rfl
theorem lp39_17 : ((E0.P.funcs[39]?).bind fun fn => fn.body.bind (findLoop 17)) = some (loopIn Try.f39 17) := by kernel_rfl
theorem kp39_11 : E0.kp 39 11 = ([(2, false), (6, false), (41, false), (42, false), (43, false)], [(6, false)]) := by kernel_rfl
theorem ow39_11 : E0.own 39 11 = [] := by kernel_rfl
theorem lp39_11 : ((E0.P.funcs[39]?).bind fun fn => fn.body.bind (findLoop 11)) = some (loopIn Try.f39 11) := by kernel_rfl
theorem kp39_5 : E0.kp 39 5 = ([(1, false), (2, false), (6, false), (30, false), (31, false), (32, false)], [(1, false), (2, false), (6, false)]) := by kernel_rfl
theorem ow39_5 : E0.own 39 5 = [] := by kernel_rfl
theorem lp39_5 : ((E0.P.funcs[39]?).bind fun fn => fn.body.bind (findLoop 5)) = some (loopIn Try.f39 5) := by kernel_rfl
/-! quadrat/quadratref06.Pick -/
theorem fn40 : E0.P.funcs[40]? = some Try.f40 := Try.func40
theorem body40 : Try.f40.body = some (codeOf Try.f40) := by kernel_rfl
theorem ok40 : okFunc Try.f40 = true := by kernel_rfl
theorem kr40 : E0.kr 40 = [(4, false), (5, false)] := by kernel_rfl
theorem kp40_22 : E0.kp 40 22 = ([(1, false), (2, false), (8, false), (9, false), (10, false), (11, false), (12, false)], [(1, false), (2, false), (8, false), (9, false), (10, false), (11, false)]) := by kernel_rfl
theorem ow40_22 : E0.own 40 22 = [(10, none, 1)] := by kernel_rfl
theorem lp40_22 : ((E0.P.funcs[40]?).bind fun fn => fn.body.bind (findLoop 22)) = some (loopIn Try.f40 22) := by kernel_rfl
theorem kp40_19 : E0.kp 40 19 = ([(1, false), (2, false), (8, false), (9, false), (10, false), (11, false)], [(1, false), (2, false), (9, false), (10, false)]) := by kernel_rfl
theorem ow40_19 : E0.own 40 19 = [(10, none, 1)] := by kernel_rfl
theorem lp40_19 : ((E0.P.funcs[40]?).bind fun fn => fn.body.bind (findLoop 19)) = some (loopIn Try.f40 19) := by kernel_rfl
theorem kp40_13 : E0.kp 40 13 = ([(1, false), (2, false), (8, false), (9, false)], [(8, false)]) := by kernel_rfl
theorem ow40_13 : E0.own 40 13 = [] := by kernel_rfl
theorem lp40_13 : ((E0.P.funcs[40]?).bind fun fn => fn.body.bind (findLoop 13)) = some (loopIn Try.f40 13) := by kernel_rfl
theorem kp40_7 : E0.kp 40 7 = ([(1, false), (2, false), (6, false), (7, false)], [(1, false), (2, false), (6, false)]) := by kernel_rfl
theorem ow40_7 : E0.own 40 7 = [] := by kernel_rfl
theorem lp40_7 : ((E0.P.funcs[40]?).bind fun fn => fn.body.bind (findLoop 7)) = some (loopIn Try.f40 7) := by kernel_rfl
theorem kp40_4 : E0.kp 40 4 = ([(1, false), (2, false), (6, false)], [(1, false), (2, false)]) := by kernel_rfl
theorem ow40_4 : E0.own 40 4 = [] := by kernel_rfl
theorem lp40_4 : ((E0.P.funcs[40]?).bind fun fn => fn.body.bind (findLoop 4)) = some (loopIn Try.f40 4) := by kernel_rfl
/-! quadrat/section.Twice -/
theorem fn41 : E0.P.funcs[41]? = some Try.f41 := Try.func41
theorem body41 : Try.f41.body = some (codeOf Try.f41) := by kernel_rfl
theorem ok41 : okFunc Try.f41 = true := by kernel_rfl
theorem kr41 : E0.kr 41 = [(2, false)] := by kernel_rfl
/-! quadrat/quadratref06.Twice -/
theorem fn42 : E0.P.funcs[42]? = some Try.f42 := Try.func42
theorem body42 : Try.f42.body = some (codeOf Try.f42) := by kernel_rfl
theorem ok42 : okFunc Try.f42 = true := by kernel_rfl
theorem kr42 : E0.kr 42 = [(2, false)] := by kernel_rfl
theorem kp42_3 : E0.kp 42 3 = ([(0, false), (3, false), (4, false)], []) := by kernel_rfl
theorem ow42_3 : E0.own 42 3 = [] := by kernel_rfl
theorem lp42_3 : ((E0.P.funcs[42]?).bind fun fn => fn.body.bind (findLoop 3)) = some (loopIn Try.f42 3) := by kernel_rfl
/-! quadrat/section.Size -/
theorem fn27 : E0.P.funcs[27]? = some Try.f27 := Try.func27
theorem body27 : Try.f27.body = some (codeOf Try.f27) := by kernel_rfl
theorem ok27 : okFunc Try.f27 = true := by kernel_rfl
theorem kr27 : E0.kr 27 = [(2, false), (3, false)] := by kernel_rfl
/-! quadrat/section.Share -/
theorem fn33 : E0.P.funcs[33]? = some Try.f33 := Try.func33
theorem body33 : Try.f33.body = some (codeOf Try.f33) := by kernel_rfl
theorem ok33 : okFunc Try.f33 = true := by kernel_rfl
theorem kr33 : E0.kr 33 = [(4, false), (5, false)] := by kernel_rfl
theorem kp33_7 : E0.kp 33 7 = ([(8, false), (10, false), (30, false), (31, false), (32, false)], [(8, false), (10, false)]) := by kernel_rfl
theorem ow33_7 : E0.own 33 7 = [] := by kernel_rfl
theorem lp33_7 : ((E0.P.funcs[33]?).bind fun fn => fn.body.bind (findLoop 7)) = some (loopIn Try.f33 7) := by kernel_rfl
/-! quadrat/quadratref06.Share -/
theorem fn34 : E0.P.funcs[34]? = some Try.f34 := Try.func34
theorem body34 : Try.f34.body = some (codeOf Try.f34) := by kernel_rfl
theorem ok34 : okFunc Try.f34 = true := by kernel_rfl
theorem kr34 : E0.kr 34 = [(4, false), (5, false)] := by kernel_rfl
theorem kp34_11 : E0.kp 34 11 = ([(6, false), (7, false), (9, false)], []) := by kernel_rfl
theorem ow34_11 : E0.own 34 11 = [] := by kernel_rfl
theorem lp34_11 : ((E0.P.funcs[34]?).bind fun fn => fn.body.bind (findLoop 11)) = some (loopIn Try.f34 11) := by kernel_rfl
theorem kp34_6 : E0.kp 34 6 = ([(3, false), (6, false), (7, false), (8, false)], [(3, false), (6, false)]) := by kernel_rfl
theorem ow34_6 : E0.own 34 6 = [] := by kernel_rfl
theorem lp34_6 : ((E0.P.funcs[34]?).bind fun fn => fn.body.bind (findLoop 6)) = some (loopIn Try.f34 6) := by kernel_rfl
/-! quadrat/section.Cut -/
theorem fn15 : E0.P.funcs[15]? = some Try.f15 := Try.func15
theorem body15 : Try.f15.body = some (codeOf Try.f15) := by kernel_rfl
theorem ok15 : okFunc Try.f15 = true := by kernel_rfl
theorem kr15 : E0.kr 15 = [(4, false), (5, false)] := by kernel_rfl
theorem kp15_12 : E0.kp 15 12 = ([(2, false), (4, false), (10, false), (56, false), (57, false), (58, false)], [(2, false), (4, false), (10, false)]) := by kernel_rfl
theorem ow15_12 : E0.own 15 12 = [(10, some 1, 1), (10, some 2, 1)] := by kernel_rfl
theorem lp15_12 : ((E0.P.funcs[15]?).bind fun fn => fn.body.bind (findLoop 12)) = some (loopIn Try.f15 12) := by kernel_rfl
theorem kp15_4 : E0.kp 15 4 = ([(1, false), (2, false), (4, false), (31, false), (32, false), (33, false)], [(1, false), (2, false), (4, false)]) := by kernel_rfl
theorem ow15_4 : E0.own 15 4 = [] := by kernel_rfl
theorem lp15_4 : ((E0.P.funcs[15]?).bind fun fn => fn.body.bind (findLoop 4)) = some (loopIn Try.f15 4) := by kernel_rfl
/-! quadrat/section.Whole -/
theorem fn31 : E0.P.funcs[31]? = some Try.f31 := Try.func31
theorem body31 : Try.f31.body = some (codeOf Try.f31) := by kernel_rfl
theorem ok31 : okFunc Try.f31 = true := by kernel_rfl
theorem kr31 : E0.kr 31 = [(2, false), (3, false)] := by kernel_rfl
theorem kp31_6 : E0.kp 31 6 = ([(2, false), (4, false), (5, false), (15, false), (16, false), (17, false)], [(2, false), (4, false)]) := by kernel_rfl
theorem ow31_6 : E0.own 31 6 = [(4, some 2, 1)] := by kernel_rfl
theorem lp31_6 : ((E0.P.funcs[31]?).bind fun fn => fn.body.bind (findLoop 6)) = some (loopIn Try.f31 6) := by kernel_rfl
/-! quadrat/section.Valid -/
theorem fn23 : E0.P.funcs[23]? = some Try.f23 := Try.func23
theorem body23 : Try.f23.body = some (codeOf Try.f23) := by kernel_rfl
theorem ok23 : okFunc Try.f23 = true := by kernel_rfl
theorem kr23 : E0.kr 23 = [(2, false)] := by kernel_rfl
/-! slices.ContainsFunc[[]int,int] -/
theorem fn48 : E0.P.funcs[48]? = some Try.f48 := Try.func48
theorem body48 : Try.f48.body = some (codeOf Try.f48) := by kernel_rfl
theorem ok48 : okFunc Try.f48 = true := by kernel_rfl
theorem kr48 : E0.kr 48 = [(4, false)] := by kernel_rfl
/-! quadrat/section.Pick$1 -/
theorem fn56 : E0.P.funcs[56]? = some Try.f56 := Try.func56
theorem body56 : Try.f56.body = some (codeOf Try.f56) := by kernel_rfl
theorem ok56 : okFunc Try.f56 = true := by kernel_rfl
theorem kr56 : E0.kr 56 = [(4, false)] := by kernel_rfl
/-! quadrat/quadratref06.Valid -/
theorem fn24 : E0.P.funcs[24]? = some Try.f24 := Try.func24
theorem body24 : Try.f24.body = some (codeOf Try.f24) := by kernel_rfl
theorem ok24 : okFunc Try.f24 = true := by kernel_rfl
theorem kr24 : E0.kr 24 = [(2, false)] := by kernel_rfl
theorem kp24_10 : E0.kp 24 10 = ([(4, false), (5, false)], []) := by kernel_rfl
theorem ow24_10 : E0.own 24 10 = [] := by kernel_rfl
theorem lp24_10 : ((E0.P.funcs[24]?).bind fun fn => fn.body.bind (findLoop 10)) = some (loopIn Try.f24 10) := by kernel_rfl
theorem kp24_4 : E0.kp 24 4 = ([(1, false), (3, false)], [(1, false)]) := by kernel_rfl
theorem ow24_4 : E0.own 24 4 = [] := by kernel_rfl
theorem lp24_4 : ((E0.P.funcs[24]?).bind fun fn => fn.body.bind (findLoop 4)) = some (loopIn Try.f24 4) := by kernel_rfl
/-! quadrat/section.size -/
theorem fn46 : E0.P.funcs[46]? = some Try.f46 := Try.func46
theorem body46 : Try.f46.body = some (codeOf Try.f46) := by kernel_rfl
theorem ok46 : okFunc Try.f46 = true := by kernel_rfl
theorem kr46 : E0.kr 46 = [(2, false)] := by kernel_rfl
theorem kp46_5 : E0.kp 46 5 = ([(3, false), (13, false), (14, false), (15, false)], [(3, false)]) := by kernel_rfl
theorem ow46_5 : E0.own 46 5 = [] := by kernel_rfl
theorem lp46_5 : ((E0.P.funcs[46]?).bind fun fn => fn.body.bind (findLoop 5)) = some (loopIn Try.f46 5) := by kernel_rfl
/-! quadrat/section.Places -/
theorem fn25 : E0.P.funcs[25]? = some Try.f25 := Try.func25
theorem body25 : Try.f25.body = some (codeOf Try.f25) := by kernel_rfl
theorem ok25 : okFunc Try.f25 = true := by kernel_rfl
theorem kr25 : E0.kr 25 = [(2, false), (3, false)] := by kernel_rfl
theorem kp25_14 : E0.kp 25 14 = ([(1, false), (4, false), (5, false), (6, false), (7, true), (8, false), (22, false), (23, false), (24, false), (35, false), (36, false), (37, false)], [(1, false), (4, false), (5, false), (6, false), (7, false), (8, false), (22, false), (23, false), (24, false)]) := by kernel_rfl
theorem ow25_14 : E0.own 25 14 = [(4, none, 1)] := by kernel_rfl
theorem lp25_14 : ((E0.P.funcs[25]?).bind fun fn => fn.body.bind (findLoop 14)) = some (loopIn Try.f25 14) := by kernel_rfl
theorem kp25_11 : E0.kp 25 11 = ([(1, false), (4, false), (5, false), (6, false), (7, true), (8, false), (22, false), (23, false), (24, false)], [(1, false), (4, false), (22, false), (23, false), (24, false)]) := by kernel_rfl
theorem ow25_11 : E0.own 25 11 = [(4, none, 1)] := by kernel_rfl
theorem lp25_11 : ((E0.P.funcs[25]?).bind fun fn => fn.body.bind (findLoop 11)) = some (loopIn Try.f25 11) := by kernel_rfl
theorem kp25_7 : E0.kp 25 7 = ([(1, false), (4, false), (22, false), (23, false), (24, false)], [(4, false)]) := by kernel_rfl
theorem ow25_7 : E0.own 25 7 = [(4, none, 1)] := by kernel_rfl
theorem lp25_7 : ((E0.P.funcs[25]?).bind fun fn => fn.body.bind (findLoop 7)) = some (loopIn Try.f25 7) := by kernel_rfl
/-! quadrat/section.Share$1 -/
theorem fn54 : E0.P.funcs[54]? = some Try.f54 := Try.func54
theorem body54 : Try.f54.body = some (codeOf Try.f54) := by kernel_rfl
theorem ok54 : okFunc Try.f54 = true := by kernel_rfl
theorem kr54 : E0.kr 54 = [(3, false)] := by kernel_rfl
/-! quadrat/quadratref06.places -/
theorem fn52 : E0.P.funcs[52]? = some Try.f52 := Try.func52
theorem body52 : Try.f52.body = some (codeOf Try.f52) := by kernel_rfl
theorem ok52 : okFunc Try.f52 = true := by kernel_rfl
theorem kr52 : E0.kr 52 = [(2, false)] := by kernel_rfl
theorem kp52_12 : E0.kp 52 12 = ([(1, false), (3, false), (4, false), (5, false), (6, false), (7, false)], [(1, false), (3, false), (4, false), (5, false), (6, false)]) := by kernel_rfl
theorem ow52_12 : E0.own 52 12 = [(5, none, 1)] := by kernel_rfl
theorem lp52_12 : ((E0.P.funcs[52]?).bind fun fn => fn.body.bind (findLoop 12)) = some (loopIn Try.f52 12) := by kernel_rfl
theorem kp52_9 : E0.kp 52 9 = ([(1, false), (3, false), (4, false), (5, false), (6, false)], [(1, false), (4, false), (5, false)]) := by kernel_rfl
theorem ow52_9 : E0.own 52 9 = [(5, none, 1)] := by kernel_rfl
theorem lp52_9 : ((E0.P.funcs[52]?).bind fun fn => fn.body.bind (findLoop 9)) = some (loopIn Try.f52 9) := by kernel_rfl
theorem kp52_5 : E0.kp 52 5 = ([(1, false), (3, false), (4, false)], [(3, false)]) := by kernel_rfl
theorem ow52_5 : E0.own 52 5 = [] := by kernel_rfl
theorem lp52_5 : ((E0.P.funcs[52]?).bind fun fn => fn.body.bind (findLoop 5)) = some (loopIn Try.f52 5) := by kernel_rfl
/-! quadrat/section.Count -/
theorem fn12 : E0.P.funcs[12]? = some Try.f12 := Try.func12
theorem body12 : Try.f12.body = some (codeOf Try.f12) := by kernel_rfl
theorem ok12 : okFunc Try.f12 = true := by kernel_rfl
theorem kr12 : E0.kr 12 = [(2, false), (3, false)] := by kernel_rfl
/-! slices.Clone[[]int,int] -/
theorem fn53 : E0.P.funcs[53]? = some Try.f53 := Try.func53
theorem body53 : Try.f53.body = some (codeOf Try.f53) := by kernel_rfl
theorem ok53 : okFunc Try.f53 = true := by kernel_rfl
theorem kr53 : E0.kr 53 = [(2, false)] := by kernel_rfl
/-! quadrat/section.Valid$1 -/
theorem fn49 : E0.P.funcs[49]? = some Try.f49 := Try.func49
theorem body49 : Try.f49.body = some (codeOf Try.f49) := by kernel_rfl
theorem ok49 : okFunc Try.f49 = true := by kernel_rfl
theorem kr49 : E0.kr 49 = [(2, false)] := by kernel_rfl
/-! quadrat/section.ends -/
theorem fn50 : E0.P.funcs[50]? = some Try.f50 := Try.func50
theorem body50 : Try.f50.body = some (codeOf Try.f50) := by kernel_rfl
theorem ok50 : okFunc Try.f50 = true := by kernel_rfl
theorem kr50 : E0.kr 50 = [(2, false), (3, false)] := by kernel_rfl
theorem kp50_3 : E0.kp 50 3 = ([(1, false), (2, false), (3, false), (12, false), (13, false), (14, false)], [(2, false), (3, false)]) := by kernel_rfl
theorem ow50_3 : E0.own 50 3 = [] := by kernel_rfl
theorem lp50_3 : ((E0.P.funcs[50]?).bind fun fn => fn.body.bind (findLoop 3)) = some (loopIn Try.f50 3) := by kernel_rfl
/-! slices.IndexFunc[[]int,int] -/
theorem fn61 : E0.P.funcs[61]? = some Try.f61 := Try.func61
theorem body61 : Try.f61.body = some (codeOf Try.f61) := by kernel_rfl
theorem ok61 : okFunc Try.f61 = true := by kernel_rfl
theorem kr61 : E0.kr 61 = [(4, false)] := by kernel_rfl
theorem kp61_2 : E0.kp 61 2 = ([(0, false), (1, false), (7, false), (8, false)], []) := by kernel_rfl
theorem ow61_2 : E0.own 61 2 = [] := by kernel_rfl
theorem lp61_2 : ((E0.P.funcs[61]?).bind fun fn => fn.body.bind (findLoop 2)) = some (loopIn Try.f61 2) := by kernel_rfl
/-! quadrat/quadratref06.size -/
theorem fn47 : E0.P.funcs[47]? = some Try.f47 := Try.func47
theorem body47 : Try.f47.body = some (codeOf Try.f47) := by kernel_rfl
theorem ok47 : okFunc Try.f47 = true := by kernel_rfl
theorem kr47 : E0.kr 47 = [(2, false)] := by kernel_rfl
theorem kp47_5 : E0.kp 47 5 = ([(0, false), (3, false), (4, false)], [(3, false)]) := by kernel_rfl
theorem ow47_5 : E0.own 47 5 = [] := by kernel_rfl
theorem lp47_5 : ((E0.P.funcs[47]?).bind fun fn => fn.body.bind (findLoop 5)) = some (loopIn Try.f47 5) := by kernel_rfl
/-! quadrat/quadratref06.near -/
theorem fn51 : E0.P.funcs[51]? = some Try.f51 := Try.func51
theorem body51 : Try.f51.body = some (codeOf Try.f51) := by kernel_rfl
theorem ok51 : okFunc Try.f51 = true := by kernel_rfl
theorem kr51 : E0.kr 51 = [(2, false)] := by kernel_rfl
/-! quadrat/section.size$1 -/
theorem fn60 : E0.P.funcs[60]? = some Try.f60 := Try.func60
theorem body60 : Try.f60.body = some (codeOf Try.f60) := by kernel_rfl
theorem ok60 : okFunc Try.f60 = true := by kernel_rfl
theorem kr60 : E0.kr 60 = [(2, false)] := by kernel_rfl
/-! quadrat/section.isNumber -/
theorem fn43 : E0.P.funcs[43]? = some Try.f43 := Try.func43
theorem body43 : Try.f43.body = some (codeOf Try.f43) := by kernel_rfl
theorem ok43 : okFunc Try.f43 = true := by kernel_rfl
theorem kr43 : E0.kr 43 = [(2, false)] := by kernel_rfl
end Go.Proofs.Yticjlkommabcjaa.Tev
