/- What the evaluator asks of this program: types, functions, loops (printed by wip/tools/tx.py; every equation checked by the kernel). -/
import Derived.Test.YtnbijiopcgfmfaaProg
import Derived.Test.YtnbijiopcgfmfaaTevSl
import Derived.KernelRfl
namespace Go.Proofs.Ytnbijiopcgfmfaa.Tev
open Go Go.RowKit Go.Proofs
set_option maxRecDepth 100000
set_option linter.unusedVariables false
set_option linter.unusedSimpArgs false
set_option linter.unusedSectionVars false
structure LpRow where
  f : Nat
  id : Nat
  k1 : Keep
  k2 : Keep
  ow : List (Nat × Option Nat × Nat)
def rows : List LpRow := [
  ⟨3, 30, [(3, false), (9, false), (15, false), (22, false), (26, false), (27, false), (29, false)], [], []⟩,
  ⟨11, 6, [(2, false), (4, false), (5, false), (15, false), (16, false), (17, false)], [(2, false), (4, false)], [(4, some 2, 1)]⟩,
  ⟨12, 12, [(2, false), (4, false), (10, false), (56, false), (57, false), (58, false)], [(2, false), (4, false), (10, false)], [(10, some 1, 1), (10, some 2, 1)]⟩,
  ⟨12, 4, [(1, false), (2, false), (4, false), (31, false), (32, false), (33, false)], [(1, false), (2, false), (4, false)], []⟩,
  ⟨39, 5, [(3, false), (18, false), (19, false), (20, false)], [(3, false)], []⟩,
  ⟨40, 3, [(3, false), (4, false), (5, false), (13, false), (14, false), (15, false)], [(4, false), (5, false)], []⟩,
  ⟨41, 12, [(3, false), (5, false), (6, false), (7, false), (8, true), (9, false), (18, false), (19, false), (20, false), (31, false), (32, false), (33, false)], [(3, false), (5, false), (6, false), (7, false), (8, false), (9, false), (18, false), (19, false), (20, false)], [(5, none, 1)]⟩,
  ⟨41, 9, [(3, false), (5, false), (6, false), (7, false), (8, true), (9, false), (18, false), (19, false), (20, false)], [(3, false), (5, false), (18, false), (19, false), (20, false)], [(5, none, 1)]⟩,
  ⟨41, 5, [(3, false), (5, false), (18, false), (19, false), (20, false)], [(5, false)], [(5, none, 1)]⟩,
  ⟨42, 5, [(3, false), (13, false), (14, false), (15, false)], [(3, false)], []⟩,
  ⟨53, 3, [(1, false), (2, false), (3, false), (12, false), (13, false), (14, false)], [(2, false), (3, false)], []⟩,
  ⟨78, 2, [(0, false), (1, false), (7, false), (8, false)], [], []⟩]
def rowOf : List LpRow → Nat → Nat → LpRow
  | [], _, _ => ⟨0, 0, [], [], []⟩
  | r :: l, f, id => bif r.f == f && r.id == id then r else rowOf l f id
def rets : List (Nat × Keep) := [(3, [(8, false)]), (6, [(0, false)]), (7, [(2, false), (3, false)]), (8, [(6, false), (7, false)]), (9, [(10, false), (11, false)]), (10, [(4, false), (5, false)]), (11, [(2, false), (3, false)]), (12, [(4, false), (5, false)]), (13, [(10, false), (11, false)]), (14, [(10, false), (11, false), (12, false), (13, false)]), (36, [(10, false), (11, false), (12, false)]), (37, [(2, false)]), (38, [(4, false)]), (39, [(2, false)]), (40, [(4, false), (5, false)]), (41, [(4, false)]), (42, [(2, false)]), (43, [(2, false)]), (21, [(2, false)]), (44, [(2, false)]), (45, [(6, false)]), (69, [(4, false)]), (70, [(4, false)]), (71, [(4, false)]), (51, [(4, false)]), (72, [(2, false)]), (73, [(2, false)]), (74, [(2, false)]), (75, [(2, false)]), (52, [(2, false)]), (53, [(2, false), (3, false)]), (86, [(2, false)]), (78, [(4, false)]), (102, [(2, false)])]
def retOf : List (Nat × Keep) → Nat → Keep
  | [], _ => []
  | r :: l, f => bif r.1 == f then r.2 else retOf l f
noncomputable def E0 : Env := ⟨Try.prog, fun f id => let r := rowOf rows f id; (r.k1, r.k2), fun f id => (rowOf rows f id).ow, fun f => retOf rets f, fun f id => []⟩
theorem E0fz (f id : Nat) : E0.fz f id = [] := rfl
theorem E0P : E0.P = Try.prog := rfl
def codeOf (fn : Func) : Code := fn.body.getD .skip
def loopIn (fn : Func) (id : Nat) : Code := (fn.body.bind (findLoop id)).getD .skip
theorem ty3 : szOf Try.prog 3 = some 1 ∧ bytesOf Try.prog 3 = some 8 ∧ zeroOf Try.prog 3 = some [.c (.v (.int .i64 0))] ∧ aggOf Try.prog 3 = some false ∧ zero1 Try.prog 3 = some (.c (.v (.int .i64 0))) ∧ cellTys Try.prog 8 3 = some [none] := ⟨by kernel_rfl, by kernel_rfl, by kernel_rfl, by kernel_rfl, by kernel_rfl, by kernel_rfl⟩
theorem ty4 : szOf Try.prog 4 = some 1 ∧ bytesOf Try.prog 4 = some 1 ∧ zeroOf Try.prog 4 = some [B false] ∧ aggOf Try.prog 4 = some false ∧ zero1 Try.prog 4 = some (B false) ∧ Try.prog.underlying 4 = some .bool ∧ cellTys Try.prog 8 4 = some [none] := ⟨by kernel_rfl, by kernel_rfl, by kernel_rfl, by kernel_rfl, by kernel_rfl, by kernel_rfl, by kernel_rfl⟩
theorem ty23 : szOf Try.prog 23 = some 3 ∧ bytesOf Try.prog 23 = some 24 ∧ zeroOf Try.prog 23 = some [.c (.v (.int .i64 0)), .c (.v (.int .i64 0)), .c (.v (.int .i64 0))] ∧ aggOf Try.prog 23 = some true ∧ fieldOf Try.prog 23 0 = some (0, 3) ∧ fieldOf Try.prog 23 1 = some (1, 3) ∧ fieldOf Try.prog 23 2 = some (2, 3) ∧ placesOf Try.prog 23 = some (.st [(0, 1), (1, 1), (2, 1)]) ∧ cellTys Try.prog 8 23 = some [none, none, none] := ⟨by kernel_rfl, by kernel_rfl, by kernel_rfl, by kernel_rfl, by kernel_rfl, by kernel_rfl, by kernel_rfl, by kernel_rfl, by kernel_rfl⟩
theorem ty25 : szOf Try.prog 25 = some 1 ∧ bytesOf Try.prog 25 = some 8 ∧ zeroOf Try.prog 25 = some [.c (.v (.int .i64 0))] ∧ aggOf Try.prog 25 = some false ∧ zero1 Try.prog 25 = some (.c (.v (.int .i64 0))) ∧ cellTys Try.prog 8 25 = some [none] := ⟨by kernel_rfl, by kernel_rfl, by kernel_rfl, by kernel_rfl, by kernel_rfl, by kernel_rfl⟩
theorem ty28 : szOf Try.prog 28 = some 1 ∧ bytesOf Try.prog 28 = some 24 ∧ zeroOf Try.prog 28 = some [.c (.s (some 0) 0 [])] ∧ aggOf Try.prog 28 = some false ∧ zero1 Try.prog 28 = some (.c (.s (some 0) 0 [])) ∧ elemOf Try.prog 28 = some 3 ∧ Try.prog.underlying 28 = some (.slice 3) ∧ cellTys Try.prog 8 28 = some [some 1] := ⟨by kernel_rfl, by kernel_rfl, by kernel_rfl, by kernel_rfl, by kernel_rfl, by kernel_rfl, by kernel_rfl, by kernel_rfl⟩
theorem ty30 : szOf Try.prog 30 = some 3 ∧ bytesOf Try.prog 30 = some 40 ∧ zeroOf Try.prog 30 = some [.c (.v (.int .i64 0)), .c (.v (.int .i64 0)), .c (.s (some 0) 0 [])] ∧ aggOf Try.prog 30 = some true ∧ fieldOf Try.prog 30 0 = some (0, 3) ∧ fieldOf Try.prog 30 1 = some (1, 3) ∧ fieldOf Try.prog 30 2 = some (2, 28) ∧ placesOf Try.prog 30 = some (.st [(0, 1), (1, 1), (2, 1)]) ∧ cellTys Try.prog 8 30 = some [none, none, some 1] := ⟨by kernel_rfl, by kernel_rfl, by kernel_rfl, by kernel_rfl, by kernel_rfl, by kernel_rfl, by kernel_rfl, by kernel_rfl, by kernel_rfl⟩
theorem ty37 : szOf Try.prog 37 = some 3 ∧ bytesOf Try.prog 37 = some 56 ∧ zeroOf Try.prog 37 = some [.c (.v (.int .i64 0)), .c (.s (some 0) 0 []), .c (.s (some 0) 0 [])] ∧ aggOf Try.prog 37 = some true ∧ fieldOf Try.prog 37 0 = some (0, 3) ∧ fieldOf Try.prog 37 1 = some (1, 28) ∧ fieldOf Try.prog 37 2 = some (2, 28) ∧ placesOf Try.prog 37 = some (.st [(0, 1), (1, 1), (2, 1)]) ∧ cellTys Try.prog 8 37 = some [none, some 1, some 1] := ⟨by kernel_rfl, by kernel_rfl, by kernel_rfl, by kernel_rfl, by kernel_rfl, by kernel_rfl, by kernel_rfl, by kernel_rfl, by kernel_rfl⟩
theorem ty42 : szOf Try.prog 42 = some 5 ∧ bytesOf Try.prog 42 = some 40 ∧ zeroOf Try.prog 42 = some [B false, .c (.v (.int .i64 0)), .c (.v (.int .i64 0)), .c (.v (.int .i64 0)), .c (.v (.int .i64 0))] ∧ aggOf Try.prog 42 = some true ∧ fieldOf Try.prog 42 0 = some (0, 4) ∧ fieldOf Try.prog 42 1 = some (1, 3) ∧ fieldOf Try.prog 42 2 = some (2, 23) ∧ placesOf Try.prog 42 = some (.st [(0, 1), (1, 1), (2, 3)]) ∧ cellTys Try.prog 8 42 = some [none, none, none, none, none] := ⟨by kernel_rfl, by kernel_rfl, by kernel_rfl, by kernel_rfl, by kernel_rfl, by kernel_rfl, by kernel_rfl, by kernel_rfl, by kernel_rfl⟩
theorem ty43 : szOf Try.prog 43 = some 1 ∧ bytesOf Try.prog 43 = some 24 ∧ zeroOf Try.prog 43 = some [.c (.s (some 0) 0 [])] ∧ aggOf Try.prog 43 = some false ∧ zero1 Try.prog 43 = some (.c (.s (some 0) 0 [])) ∧ elemOf Try.prog 43 = some 42 ∧ Try.prog.underlying 43 = some (.slice 42) ∧ cellTys Try.prog 8 43 = some [some 5] := ⟨by kernel_rfl, by kernel_rfl, by kernel_rfl, by kernel_rfl, by kernel_rfl, by kernel_rfl, by kernel_rfl, by kernel_rfl⟩
theorem tb4 : (∀ x y a b, bin2 Try.prog .eql 4 x y (.c (.v (.bool a))) (.c (.v (.bool b))) = some (B (decide (a = b)))) ∧ ∀ x y a b, bin2 Try.prog .neq 4 x y (.c (.v (.bool a))) (.c (.v (.bool b))) = some (B (decide (¬ a = b))) := ⟨fun x y a b => bin_eqlB (by kernel_rfl) x y a b, fun x y a b => bin_neqB (by kernel_rfl) x y a b⟩
/-! quadrat/quadrattop.TopGuards -/
theorem fn3 : E0.P.funcs[3]? = some Try.f3 := Try.func3
theorem body3 : Try.f3.body = some (codeOf Try.f3) := by kernel_rfl
theorem ok3 : okFunc Try.f3 = true := by kernel_rfl
theorem kr3 : E0.kr 3 = [(8, false)] := by kernel_rfl
theorem kp3_30 : E0.kp 3 30 = ([(3, false), (9, false), (15, false), (22, false), (26, false), (27, false), (29, false)], []) := by kernel_rfl
theorem ow3_30 : E0.own 3 30 = [] := by kernel_rfl
theorem lp3_30 : ((E0.P.funcs[3]?).bind fun fn => fn.body.bind (findLoop 30)) = some (loopIn Try.f3 30) := by kernel_rfl
/-! quadrat/quadratlaw22.Awake -/
theorem fn6 : E0.P.funcs[6]? = some Try.f6 := Try.func6
theorem body6 : Try.f6.body = some (codeOf Try.f6) := by kernel_rfl
theorem ok6 : okFunc Try.f6 = true := by kernel_rfl
theorem kr6 : E0.kr 6 = [(0, false)] := by kernel_rfl
/-! quadrat/section.Count -/
theorem fn7 : E0.P.funcs[7]? = some Try.f7 := Try.func7
theorem body7 : Try.f7.body = some (codeOf Try.f7) := by kernel_rfl
theorem ok7 : okFunc Try.f7 = true := by kernel_rfl
theorem kr7 : E0.kr 7 = [(2, false), (3, false)] := by kernel_rfl
/-! quadrat/overlap.Inside -/
theorem fn8 : E0.P.funcs[8]? = some Try.f8 := Try.func8
theorem body8 : Try.f8.body = some (codeOf Try.f8) := by kernel_rfl
theorem ok8 : okFunc Try.f8 = true := by kernel_rfl
theorem kr8 : E0.kr 8 = [(6, false), (7, false)] := by kernel_rfl
/-! quadrat/guard.Safe -/
theorem fn9 : E0.P.funcs[9]? = some Try.f9 := Try.func9
theorem body9 : Try.f9.body = some (codeOf Try.f9) := by kernel_rfl
theorem ok9 : okFunc Try.f9 = true := by kernel_rfl
theorem kr9 : E0.kr 9 = [(10, false), (11, false)] := by kernel_rfl
/-! quadrat/overlap.Places -/
theorem fn10 : E0.P.funcs[10]? = some Try.f10 := Try.func10
theorem body10 : Try.f10.body = some (codeOf Try.f10) := by kernel_rfl
theorem ok10 : okFunc Try.f10 = true := by kernel_rfl
theorem kr10 : E0.kr 10 = [(4, false), (5, false)] := by kernel_rfl
/-! quadrat/section.Whole -/
theorem fn11 : E0.P.funcs[11]? = some Try.f11 := Try.func11
theorem body11 : Try.f11.body = some (codeOf Try.f11) := by kernel_rfl
theorem ok11 : okFunc Try.f11 = true := by kernel_rfl
theorem kr11 : E0.kr 11 = [(2, false), (3, false)] := by kernel_rfl
theorem kp11_6 : E0.kp 11 6 = ([(2, false), (4, false), (5, false), (15, false), (16, false), (17, false)], [(2, false), (4, false)]) := by kernel_rfl
theorem ow11_6 : E0.own 11 6 = [(4, some 2, 1)] := by kernel_rfl
theorem lp11_6 : ((E0.P.funcs[11]?).bind fun fn => fn.body.bind (findLoop 6)) = some (loopIn Try.f11 6) := by kernel_rfl
/-! quadrat/section.Cut -/
theorem fn12 : E0.P.funcs[12]? = some Try.f12 := Try.func12
theorem body12 : Try.f12.body = some (codeOf Try.f12) := by kernel_rfl
theorem ok12 : okFunc Try.f12 = true := by kernel_rfl
theorem kr12 : E0.kr 12 = [(4, false), (5, false)] := by kernel_rfl
theorem kp12_12 : E0.kp 12 12 = ([(2, false), (4, false), (10, false), (56, false), (57, false), (58, false)], [(2, false), (4, false), (10, false)]) := by kernel_rfl
theorem ow12_12 : E0.own 12 12 = [(10, some 1, 1), (10, some 2, 1)] := by kernel_rfl
theorem lp12_12 : ((E0.P.funcs[12]?).bind fun fn => fn.body.bind (findLoop 12)) = some (loopIn Try.f12 12) := by kernel_rfl
theorem kp12_4 : E0.kp 12 4 = ([(1, false), (2, false), (4, false), (31, false), (32, false), (33, false)], [(1, false), (2, false), (4, false)]) := by kernel_rfl
theorem ow12_4 : E0.own 12 4 = [] := by kernel_rfl
theorem lp12_4 : ((E0.P.funcs[12]?).bind fun fn => fn.body.bind (findLoop 4)) = some (loopIn Try.f12 4) := by kernel_rfl
/-! quadrat/guard.First -/
theorem fn13 : E0.P.funcs[13]? = some Try.f13 := Try.func13
theorem body13 : Try.f13.body = some (codeOf Try.f13) := by kernel_rfl
theorem ok13 : okFunc Try.f13 = true := by kernel_rfl
theorem kr13 : E0.kr 13 = [(10, false), (11, false)] := by kernel_rfl
/-! quadrat/guard.Split -/
theorem fn14 : E0.P.funcs[14]? = some Try.f14 := Try.func14
theorem body14 : Try.f14.body = some (codeOf Try.f14) := by kernel_rfl
theorem ok14 : okFunc Try.f14 = true := by kernel_rfl
theorem kr14 : E0.kr 14 = [(10, false), (11, false), (12, false), (13, false)] := by kernel_rfl
/-! quadrat/guard.Part -/
theorem fn36 : E0.P.funcs[36]? = some Try.f36 := Try.func36
theorem body36 : Try.f36.body = some (codeOf Try.f36) := by kernel_rfl
theorem ok36 : okFunc Try.f36 = true := by kernel_rfl
theorem kr36 : E0.kr 36 = [(10, false), (11, false), (12, false)] := by kernel_rfl
/-! quadrat/section.isNumber -/
theorem fn37 : E0.P.funcs[37]? = some Try.f37 := Try.func37
theorem body37 : Try.f37.body = some (codeOf Try.f37) := by kernel_rfl
theorem ok37 : okFunc Try.f37 = true := by kernel_rfl
theorem kr37 : E0.kr 37 = [(2, false)] := by kernel_rfl
/-! quadrat/overlap.Valid -/
theorem fn38 : E0.P.funcs[38]? = some Try.f38 := Try.func38
theorem body38 : Try.f38.body = some (codeOf Try.f38) := by kernel_rfl
theorem ok38 : okFunc Try.f38 = true := by kernel_rfl
theorem kr38 : E0.kr 38 = [(4, false)] := by kernel_rfl
/-! quadrat/overlap.Many -/
theorem fn39 : E0.P.funcs[39]? = some Try.f39 := Try.func39
theorem body39 : Try.f39.body = some (codeOf Try.f39) := by kernel_rfl
theorem ok39 : okFunc Try.f39 = true := by kernel_rfl
theorem kr39 : E0.kr 39 = [(2, false)] := by kernel_rfl
theorem kp39_5 : E0.kp 39 5 = ([(3, false), (18, false), (19, false), (20, false)], [(3, false)]) := by kernel_rfl
theorem ow39_5 : E0.own 39 5 = [] := by kernel_rfl
theorem lp39_5 : ((E0.P.funcs[39]?).bind fun fn => fn.body.bind (findLoop 5)) = some (loopIn Try.f39 5) := by kernel_rfl
/-! quadrat/overlap.ends -/
theorem fn40 : E0.P.funcs[40]? = some Try.f40 := Try.func40
theorem body40 : Try.f40.body = some (codeOf Try.f40) := by kernel_rfl
theorem ok40 : okFunc Try.f40 = true := by kernel_rfl
theorem kr40 : E0.kr 40 = [(4, false), (5, false)] := by kernel_rfl
theorem kp40_3 : E0.kp 40 3 = ([(3, false), (4, false), (5, false), (13, false), (14, false), (15, false)], [(4, false), (5, false)]) := by kernel_rfl
theorem ow40_3 : E0.own 40 3 = [] := by kernel_rfl
theorem lp40_3 : ((E0.P.funcs[40]?).bind fun fn => fn.body.bind (findLoop 3)) = some (loopIn Try.f40 3) := by kernel_rfl
/-! quadrat/overlap.places -/
theorem fn41 : E0.P.funcs[41]? = some Try.f41 := Try.func41
theorem body41 : Try.f41.body = some (codeOf Try.f41) := by kernel_rfl
theorem ok41 : okFunc Try.f41 = true := by kernel_rfl
theorem kr41 : E0.kr 41 = [(4, false)] := by kernel_rfl
theorem kp41_12 : E0.kp 41 12 = ([(3, false), (5, false), (6, false), (7, false), (8, true), (9, false), (18, false), (19, false), (20, false), (31, false), (32, false), (33, false)], [(3, false), (5, false), (6, false), (7, false), (8, false), (9, false), (18, false), (19, false), (20, false)]) := by kernel_rfl
theorem ow41_12 : E0.own 41 12 = [(5, none, 1)] := by kernel_rfl
theorem lp41_12 : ((E0.P.funcs[41]?).bind fun fn => fn.body.bind (findLoop 12)) = some (loopIn Try.f41 12) := by kernel_rfl
theorem kp41_9 : E0.kp 41 9 = ([(3, false), (5, false), (6, false), (7, false), (8, true), (9, false), (18, false), (19, false), (20, false)], [(3, false), (5, false), (18, false), (19, false), (20, false)]) := by kernel_rfl
theorem ow41_9 : E0.own 41 9 = [(5, none, 1)] := by kernel_rfl
theorem lp41_9 : ((E0.P.funcs[41]?).bind fun fn => fn.body.bind (findLoop 9)) = some (loopIn Try.f41 9) := by kernel_rfl
theorem kp41_5 : E0.kp 41 5 = ([(3, false), (5, false), (18, false), (19, false), (20, false)], [(5, false)]) := by kernel_rfl
theorem ow41_5 : E0.own 41 5 = [(5, none, 1)] := by kernel_rfl
theorem lp41_5 : ((E0.P.funcs[41]?).bind fun fn => fn.body.bind (findLoop 5)) = some (loopIn Try.f41 5) := by kernel_rfl
/-! quadrat/section.size -/
theorem fn42 : E0.P.funcs[42]? = some Try.f42 := Try.func42
theorem body42 : Try.f42.body = some (codeOf Try.f42) := by kernel_rfl
theorem ok42 : okFunc Try.f42 = true := by kernel_rfl
theorem kr42 : E0.kr 42 = [(2, false)] := by kernel_rfl
theorem kp42_5 : E0.kp 42 5 = ([(3, false), (13, false), (14, false), (15, false)], [(3, false)]) := by kernel_rfl
theorem ow42_5 : E0.own 42 5 = [] := by kernel_rfl
theorem lp42_5 : ((E0.P.funcs[42]?).bind fun fn => fn.body.bind (findLoop 5)) = some (loopIn Try.f42 5) := by kernel_rfl
/-! slices.Clone[[]int,int] -/
theorem fn43 : E0.P.funcs[43]? = some Try.f43 := Try.func43
theorem body43 : Try.f43.body = some (codeOf Try.f43) := by kernel_rfl
theorem ok43 : okFunc Try.f43 = true := by kernel_rfl
theorem kr43 : E0.kr 43 = [(2, false)] := by kernel_rfl
/-! quadrat/section.Valid -/
theorem fn21 : E0.P.funcs[21]? = some Try.f21 := Try.func21
theorem body21 : Try.f21.body = some (codeOf Try.f21) := by kernel_rfl
theorem ok21 : okFunc Try.f21 = true := by kernel_rfl
theorem kr21 : E0.kr 21 = [(2, false)] := by kernel_rfl
/-! quadrat/guard.turns -/
theorem fn44 : E0.P.funcs[44]? = some Try.f44 := Try.func44
theorem body44 : Try.f44.body = some (codeOf Try.f44) := by kernel_rfl
theorem ok44 : okFunc Try.f44 = true := by kernel_rfl
theorem kr44 : E0.kr 44 = [(2, false)] := by kernel_rfl
/-! quadrat/guard.members -/
theorem fn45 : E0.P.funcs[45]? = some Try.f45 := Try.func45
theorem body45 : Try.f45.body = some (codeOf Try.f45) := by kernel_rfl
theorem ok45 : okFunc Try.f45 = true := by kernel_rfl
theorem kr45 : E0.kr 45 = [(6, false)] := by kernel_rfl
/-! quadrat/guard.asked -/
theorem fn69 : E0.P.funcs[69]? = some Try.f69 := Try.func69
theorem body69 : Try.f69.body = some (codeOf Try.f69) := by kernel_rfl
theorem ok69 : okFunc Try.f69 = true := by kernel_rfl
theorem kr69 : E0.kr 69 = [(4, false)] := by kernel_rfl
/-! quadrat/guard.ceil -/
theorem fn70 : E0.P.funcs[70]? = some Try.f70 := Try.func70
theorem body70 : Try.f70.body = some (codeOf Try.f70) := by kernel_rfl
theorem ok70 : okFunc Try.f70 = true := by kernel_rfl
theorem kr70 : E0.kr 70 = [(4, false)] := by kernel_rfl
/-! quadrat/guard.floor -/
theorem fn71 : E0.P.funcs[71]? = some Try.f71 := Try.func71
theorem body71 : Try.f71.body = some (codeOf Try.f71) := by kernel_rfl
theorem ok71 : okFunc Try.f71 = true := by kernel_rfl
theorem kr71 : E0.kr 71 = [(4, false)] := by kernel_rfl
/-! slices.ContainsFunc[[]int,int] -/
theorem fn51 : E0.P.funcs[51]? = some Try.f51 := Try.func51
theorem body51 : Try.f51.body = some (codeOf Try.f51) := by kernel_rfl
theorem ok51 : okFunc Try.f51 = true := by kernel_rfl
theorem kr51 : E0.kr 51 = [(4, false)] := by kernel_rfl
/-! quadrat/overlap.isNumber -/
theorem fn72 : E0.P.funcs[72]? = some Try.f72 := Try.func72
theorem body72 : Try.f72.body = some (codeOf Try.f72) := by kernel_rfl
theorem ok72 : okFunc Try.f72 = true := by kernel_rfl
theorem kr72 : E0.kr 72 = [(2, false)] := by kernel_rfl
/-! quadrat/overlap.Valid$1 -/
theorem fn73 : E0.P.funcs[73]? = some Try.f73 := Try.func73
theorem body73 : Try.f73.body = some (codeOf Try.f73) := by kernel_rfl
theorem ok73 : okFunc Try.f73 = true := by kernel_rfl
theorem kr73 : E0.kr 73 = [(2, false)] := by kernel_rfl
/-! quadrat/overlap.Many$1 -/
theorem fn74 : E0.P.funcs[74]? = some Try.f74 := Try.func74
theorem body74 : Try.f74.body = some (codeOf Try.f74) := by kernel_rfl
theorem ok74 : okFunc Try.f74 = true := by kernel_rfl
theorem kr74 : E0.kr 74 = [(2, false)] := by kernel_rfl
/-! quadrat/section.size$1 -/
theorem fn75 : E0.P.funcs[75]? = some Try.f75 := Try.func75
theorem body75 : Try.f75.body = some (codeOf Try.f75) := by kernel_rfl
theorem ok75 : okFunc Try.f75 = true := by kernel_rfl
theorem kr75 : E0.kr 75 = [(2, false)] := by kernel_rfl
/-! quadrat/section.Valid$1 -/
theorem fn52 : E0.P.funcs[52]? = some Try.f52 := Try.func52
theorem body52 : Try.f52.body = some (codeOf Try.f52) := by kernel_rfl
theorem ok52 : okFunc Try.f52 = true := by kernel_rfl
theorem kr52 : E0.kr 52 = [(2, false)] := by kernel_rfl
/-! quadrat/section.ends -/
theorem fn53 : E0.P.funcs[53]? = some Try.f53 := Try.func53
theorem body53 : Try.f53.body = some (codeOf Try.f53) := by kernel_rfl
theorem ok53 : okFunc Try.f53 = true := by kernel_rfl
theorem kr53 : E0.kr 53 = [(2, false), (3, false)] := by kernel_rfl
theorem kp53_3 : E0.kp 53 3 = ([(1, false), (2, false), (3, false), (12, false), (13, false), (14, false)], [(2, false), (3, false)]) := by kernel_rfl
theorem ow53_3 : E0.own 53 3 = [] := by kernel_rfl
theorem lp53_3 : ((E0.P.funcs[53]?).bind fun fn => fn.body.bind (findLoop 3)) = some (loopIn Try.f53 3) := by kernel_rfl
/-! quadrat/guard.isNumber -/
theorem fn86 : E0.P.funcs[86]? = some Try.f86 := Try.func86
theorem body86 : Try.f86.body = some (codeOf Try.f86) := by kernel_rfl
theorem ok86 : okFunc Try.f86 = true := by kernel_rfl
theorem kr86 : E0.kr 86 = [(2, false)] := by kernel_rfl
/-! slices.IndexFunc[[]int,int] -/
theorem fn78 : E0.P.funcs[78]? = some Try.f78 := Try.func78
theorem body78 : Try.f78.body = some (codeOf Try.f78) := by kernel_rfl
theorem ok78 : okFunc Try.f78 = true := by kernel_rfl
theorem kr78 : E0.kr 78 = [(4, false)] := by kernel_rfl
theorem kp78_2 : E0.kp 78 2 = ([(0, false), (1, false), (7, false), (8, false)], []) := by kernel_rfl
theorem ow78_2 : E0.own 78 2 = [] := by kernel_rfl
theorem lp78_2 : ((E0.P.funcs[78]?).bind fun fn => fn.body.bind (findLoop 2)) = some (loopIn Try.f78 2) := by kernel_rfl
/-! quadrat/guard.isNumber$1 -/
theorem fn102 : E0.P.funcs[102]? = some Try.f102 := Try.func102
theorem body102 : Try.f102.body = some (codeOf Try.f102) := by kernel_rfl
theorem ok102 : okFunc Try.f102 = true := by kernel_rfl
theorem kr102 : E0.kr 102 = [(2, false)] := by kernel_rfl
end Go.Proofs.Ytnbijiopcgfmfaa.Tev
