/- What the evaluator asks of this program: types, functions, loops (printed by wip/tools/tx.py; every equation checked by the kernel). -/
import Derived.Test.YtopnopepcpepbaaProg
import Derived.Test.YtopnopepcpepbaaTevSl
import Derived.KernelRfl
namespace Go.Proofs.Ytopnopepcpepbaa.Tev
open Go Go.RowKit Go.Proofs
set_option maxRecDepth 100000
set_option linter.unusedVariables false
set_option linter.unusedSimpArgs false
set_option linter.unusedSectionVars false
structure LpRow where
  f : Nat
  id : Nat
  k1 : Keep
  k2 : Keep
  ow : List (Nat × Option Nat × Nat)
def rows : List LpRow := [
  ⟨6, 11, [(2, false), (3, false), (9, false), (10, false), (11, false), (13, false), (14, false), (15, false)], [(2, false), (3, false), (9, false), (10, false), (11, false), (13, false), (14, false)], []⟩,
  ⟨8, 11, [(2, false), (3, false), (9, false), (11, false), (13, false), (14, false)], [(3, false), (9, false), (13, false)], []⟩,
  ⟨22, 3, [(1, false), (3, false), (4, false)], [(3, false)], [(3, none, 1)]⟩,
  ⟨23, 16, [(0, false), (1, false), (2, false), (3, false), (4, false), (17, false), (18, false), (19, false), (20, false), (43, false), (44, false)], [(0, false), (1, false), (2, false), (3, false), (4, false), (17, false), (19, false), (43, false), (44, false)], []⟩,
  ⟨23, 11, [(0, false), (1, false), (2, false), (3, false), (4, false), (43, false), (44, false)], [], []⟩,
  ⟨23, 6, [(0, false), (1, false), (2, false), (3, false), (4, false), (13, false), (32, false), (33, false), (34, false)], [(0, false), (1, false), (2, false), (3, false), (4, false), (13, false)], []⟩,
  ⟨24, 6, [(1, false), (3, false), (4, false), (13, false), (14, false), (32, false), (33, false), (34, false)], [(3, false), (4, false), (13, false), (14, false)], []⟩,
  ⟨39, 7, [(7, false), (37, false), (38, false), (39, false)], [(7, false)], []⟩,
  ⟨40, 11, [(0, false), (12, false), (13, false), (14, false)], [(12, false), (13, false)], []⟩,
  ⟨40, 2, [(0, false), (1, false), (2, false), (3, false), (4, false), (11, false)], [(0, false), (1, false), (2, false), (3, false), (4, false)], []⟩,
  ⟨41, 7, [(0, false), (1, false), (2, false), (3, false), (4, false), (5, false), (13, false), (14, false)], [], []⟩,
  ⟨38, 2, [(0, false), (3, false)], [], []⟩,
  ⟨48, 2, [(0, false), (3, false)], [], []⟩,
  ⟨51, 2, [(0, false), (1, false), (7, false), (8, false)], [], []⟩,
  ⟨50, 2, [(0, false), (1, false), (7, false), (8, false)], [], []⟩]
def rowOf : List LpRow → Nat → Nat → LpRow
  | [], _, _ => ⟨0, 0, [], [], []⟩
  | r :: l, f, id => bif r.f == f && r.id == id then r else rowOf l f id
def rets : List (Nat × Keep) := [(6, [(4, false)]), (8, [(4, false)]), (9, [(10, false), (11, false)]), (11, [(10, false), (11, false)]), (13, [(0, false)]), (14, [(10, false), (11, false), (12, false)]), (16, [(6, false), (7, false), (8, false), (9, false)]), (18, [(10, false), (11, false), (12, false), (13, false)]), (22, [(2, false)]), (23, [(10, false), (11, false)]), (24, [(10, false), (11, false)]), (25, [(10, false), (11, false)]), (26, [(10, false), (11, false)]), (27, [(2, false)]), (29, [(4, false)]), (30, [(4, false)]), (31, [(4, false)]), (35, [(6, false)]), (39, [(6, false)]), (40, [(10, false)]), (41, [(12, false)]), (42, [(2, false), (3, false)]), (37, [(2, false)]), (46, [(4, false)]), (47, [(2, false)]), (28, [(2, false)]), (38, [(2, false)]), (48, [(2, false)]), (49, [(2, false)]), (44, [(4, false)]), (45, [(2, false)]), (51, [(4, false)]), (50, [(4, false)])]
def retOf : List (Nat × Keep) → Nat → Keep
  | [], _ => []
  | r :: l, f => bif r.1 == f then r.2 else retOf l f
noncomputable def E0 : Env := ⟨Try.prog, fun f id => let r := rowOf rows f id; (r.k1, r.k2), fun f id => (rowOf rows f id).ow, fun f => retOf rets f, fun f id => []⟩
theorem E0fz (f id : Nat) : E0.fz f id = [] := rfl
theorem E0P : E0.P = Try.prog := rfl
def codeOf (fn : Func) : Code := fn.body.getD .skip
def loopIn (fn : Func) (id : Nat) : Code := (fn.body.bind (findLoop id)).getD .skip
theorem ty3 : szOf Try.prog 3 = some 1 ∧ bytesOf Try.prog 3 = some 8 ∧ zeroOf Try.prog 3 = some [.c (.v (.int .i64 0))] ∧ aggOf Try.prog 3 = some false ∧ zero1 Try.prog 3 = some (.c (.v (.int .i64 0))) ∧ cellTys Try.prog 8 3 = some [none] := ⟨by kernel_rfl, by kernel_rfl, by kernel_rfl, by kernel_rfl, by kernel_rfl, by kernel_rfl⟩
theorem ty4 : szOf Try.prog 4 = some 1 ∧ bytesOf Try.prog 4 = some 1 ∧ zeroOf Try.prog 4 = some [B false] ∧ aggOf Try.prog 4 = some false ∧ zero1 Try.prog 4 = some (B false) ∧ Try.prog.underlying 4 = some .bool ∧ cellTys Try.prog 8 4 = some [none] := ⟨by kernel_rfl, by kernel_rfl, by kernel_rfl, by kernel_rfl, by kernel_rfl, by kernel_rfl, by kernel_rfl⟩
theorem ty23 : szOf Try.prog 23 = some 4 ∧ bytesOf Try.prog 23 = some 32 ∧ zeroOf Try.prog 23 = some [.c (.v (.int .i64 0)), .c (.v (.int .i64 0)), .c (.v (.int .i64 0)), .c (.v (.int .i64 0))] ∧ aggOf Try.prog 23 = some true ∧ fieldOf Try.prog 23 0 = some (0, 3) ∧ fieldOf Try.prog 23 1 = some (1, 3) ∧ fieldOf Try.prog 23 2 = some (2, 3) ∧ fieldOf Try.prog 23 3 = some (3, 3) ∧ placesOf Try.prog 23 = some (.st [(0, 1), (1, 1), (2, 1), (3, 1)]) ∧ cellTys Try.prog 8 23 = some [none, none, none, none] := ⟨by kernel_rfl, by kernel_rfl, by kernel_rfl, by kernel_rfl, by kernel_rfl, by kernel_rfl, by kernel_rfl, by kernel_rfl, by kernel_rfl, by kernel_rfl⟩
theorem ty25 : szOf Try.prog 25 = some 3 ∧ bytesOf Try.prog 25 = some 24 ∧ zeroOf Try.prog 25 = some [.c (.v (.int .i64 0)), .c (.v (.int .i64 0)), .c (.v (.int .i64 0))] ∧ aggOf Try.prog 25 = some true ∧ fieldOf Try.prog 25 0 = some (0, 3) ∧ fieldOf Try.prog 25 1 = some (1, 3) ∧ fieldOf Try.prog 25 2 = some (2, 3) ∧ placesOf Try.prog 25 = some (.st [(0, 1), (1, 1), (2, 1)]) ∧ cellTys Try.prog 8 25 = some [none, none, none] := ⟨by kernel_rfl, by kernel_rfl, by kernel_rfl, by kernel_rfl, by kernel_rfl, by kernel_rfl, by kernel_rfl, by kernel_rfl, by kernel_rfl⟩
theorem ty26 : szOf Try.prog 26 = some 1 ∧ bytesOf Try.prog 26 = some 8 ∧ zeroOf Try.prog 26 = some [.c (.v (.int .i64 0))] ∧ aggOf Try.prog 26 = some false ∧ zero1 Try.prog 26 = some (.c (.v (.int .i64 0))) ∧ cellTys Try.prog 8 26 = some [none] := ⟨by kernel_rfl, by kernel_rfl, by kernel_rfl, by kernel_rfl, by kernel_rfl, by kernel_rfl⟩
theorem ty41 : szOf Try.prog 41 = some 1 ∧ bytesOf Try.prog 41 = some 24 ∧ zeroOf Try.prog 41 = some [.c (.s (some 0) 0 [])] ∧ aggOf Try.prog 41 = some false ∧ zero1 Try.prog 41 = some (.c (.s (some 0) 0 [])) ∧ elemOf Try.prog 41 = some 3 ∧ Try.prog.underlying 41 = some (.slice 3) ∧ cellTys Try.prog 8 41 = some [some 1] := ⟨by kernel_rfl, by kernel_rfl, by kernel_rfl, by kernel_rfl, by kernel_rfl, by kernel_rfl, by kernel_rfl, by kernel_rfl⟩
theorem ty45 : szOf Try.prog 45 = some 1 ∧ bytesOf Try.prog 45 = some 24 ∧ zeroOf Try.prog 45 = some [.c (.s (some 0) 0 [])] ∧ aggOf Try.prog 45 = some false ∧ zero1 Try.prog 45 = some (.c (.s (some 0) 0 [])) ∧ elemOf Try.prog 45 = some 25 ∧ Try.prog.underlying 45 = some (.slice 25) ∧ cellTys Try.prog 8 45 = some [some 3] := ⟨by kernel_rfl, by kernel_rfl, by kernel_rfl, by kernel_rfl, by kernel_rfl, by kernel_rfl, by kernel_rfl, by kernel_rfl⟩
theorem ty47 : szOf Try.prog 47 = some 2 ∧ bytesOf Try.prog 47 = some 48 ∧ zeroOf Try.prog 47 = some [.c (.s (some 0) 0 []), .c (.s (some 0) 0 [])] ∧ aggOf Try.prog 47 = some true ∧ fieldOf Try.prog 47 0 = some (0, 45) ∧ fieldOf Try.prog 47 1 = some (1, 41) ∧ placesOf Try.prog 47 = some (.st [(0, 1), (1, 1)]) ∧ cellTys Try.prog 8 47 = some [some 3, some 1] := ⟨by kernel_rfl, by kernel_rfl, by kernel_rfl, by kernel_rfl, by kernel_rfl, by kernel_rfl, by kernel_rfl, by kernel_rfl⟩
theorem tb4 : (∀ x y a b, bin2 Try.prog .eql 4 x y (.c (.v (.bool a))) (.c (.v (.bool b))) = some (B (decide (a = b)))) ∧ ∀ x y a b, bin2 Try.prog .neq 4 x y (.c (.v (.bool a))) (.c (.v (.bool b))) = some (B (decide (¬ a = b))) := ⟨fun x y a b => bin_eqlB (by kernel_rfl) x y a b, fun x y a b => bin_neqB (by kernel_rfl) x y a b⟩
/-! quadrat/quadratlaw22.GuardTurns -/
theorem fn6 : E0.P.funcs[6]? = some Try.f6 := Try.func6
theorem body6 : Try.f6.body = some (codeOf Try.f6) := by kernel_rfl
theorem ok6 : okFunc Try.f6 = true := by kernel_rfl
theorem kr6 : E0.kr 6 = [(4, false)] := by kernel_rfl
theorem kp6_11 : E0.kp 6 11 = ([(2, false), (3, false), (9, false), (10, false), (11, false), (13, false), (14, false), (15, false)], [(2, false), (3, false), (9, false), (10, false), (11, false), (13, false), (14, false)]) := by kernel_rfl
theorem ow6_11 : E0.own 6 11 = [] := by kernel_rfl
theorem lp6_11 : ((E0.P.funcs[6]?).bind fun fn => fn.body.bind (findLoop 11)) = some (loopIn Try.f6 11) := by kernel_rfl
/-! quadrat/quadratlaw22.GuardNests -/
theorem fn8 : E0.P.funcs[8]? = some Try.f8 := Try.func8
theorem body8 : Try.f8.body = some (codeOf Try.f8) := by kernel_rfl
theorem ok8 : okFunc Try.f8 = true := by kernel_rfl
theorem kr8 : E0.kr 8 = [(4, false)] := by kernel_rfl
theorem kp8_11 : E0.kp 8 11 = ([(2, false), (3, false), (9, false), (11, false), (13, false), (14, false)], [(3, false), (9, false), (13, false)]) := by kernel_rfl
theorem ow8_11 : E0.own 8 11 = [] := by kernel_rfl
theorem lp8_11 : ((E0.P.funcs[8]?).bind fun fn => fn.body.bind (findLoop 11)) = some (loopIn Try.f8 11) := by kernel_rfl
/-! quadrat/guard.Safe -/
theorem fn9 : E0.P.funcs[9]? = some Try.f9 := Try.func9
theorem body9 : Try.f9.body = some (codeOf Try.f9) := by kernel_rfl
theorem ok9 : okFunc Try.f9 = true := by kernel_rfl
theorem kr9 : E0.kr 9 = [(10, false), (11, false)] := by kernel_rfl
/-! quadrat/guard.First -/
theorem fn11 : E0.P.funcs[11]? = some Try.f11 := Try.func11
theorem body11 : Try.f11.body = some (codeOf Try.f11) := by kernel_rfl
theorem ok11 : okFunc Try.f11 = true := by kernel_rfl
theorem kr11 : E0.kr 11 = [(10, false), (11, false)] := by kernel_rfl
/-! quadrat/quadratlaw22.Awake -/
theorem fn13 : E0.P.funcs[13]? = some Try.f13 := Try.func13
theorem body13 : Try.f13.body = some (codeOf Try.f13) := by kernel_rfl
theorem ok13 : okFunc Try.f13 = true := by kernel_rfl
theorem kr13 : E0.kr 13 = [(0, false)] := by kernel_rfl
/-! quadrat/guard.Part -/
theorem fn14 : E0.P.funcs[14]? = some Try.f14 := Try.func14
theorem body14 : Try.f14.body = some (codeOf Try.f14) := by kernel_rfl
theorem ok14 : okFunc Try.f14 = true := by kernel_rfl
theorem kr14 : E0.kr 14 = [(10, false), (11, false), (12, false)] := by kernel_rfl
/-! quadrat/guard.Ends -/
theorem fn16 : E0.P.funcs[16]? = some Try.f16 := Try.func16
theorem body16 : Try.f16.body = some (codeOf Try.f16) := by kernel_rfl
theorem ok16 : okFunc Try.f16 = true := by kernel_rfl
theorem kr16 : E0.kr 16 = [(6, false), (7, false), (8, false), (9, false)] := by kernel_rfl
/-! quadrat/guard.Split -/
theorem fn18 : E0.P.funcs[18]? = some Try.f18 := Try.func18
theorem body18 : Try.f18.body = some (codeOf Try.f18) := by kernel_rfl
theorem ok18 : okFunc Try.f18 = true := by kernel_rfl
theorem kr18 : E0.kr 18 = [(10, false), (11, false), (12, false), (13, false)] := by kernel_rfl
/-! quadrat/quadratlaw22.turns -/
theorem fn22 : E0.P.funcs[22]? = some Try.f22 := Try.func22
theorem body22 : Try.f22.body = some (codeOf Try.f22) := by kernel_rfl
theorem ok22 : okFunc Try.f22 = true := by kernel_rfl
theorem kr22 : E0.kr 22 = [(2, false)] := by kernel_rfl
theorem kp22_3 : E0.kp 22 3 = ([(1, false), (3, false), (4, false)], [(3, false)]) := by kernel_rfl
theorem ow22_3 : E0.own 22 3 = [(3, none, 1)] := by kernel_rfl
theorem lp22_3 : ((E0.P.funcs[22]?).bind fun fn => fn.body.bind (findLoop 3)) = some (loopIn Try.f22 3) := by kernel_rfl
/-! quadrat/guard.FirstNest -/
theorem fn23 : E0.P.funcs[23]? = some Try.f23 := Try.func23
theorem body23 : Try.f23.body = some (codeOf Try.f23) := by kernel_rfl
theorem ok23 : okFunc Try.f23 = true := by kernel_rfl
theorem kr23 : E0.kr 23 = [(10, false), (11, false)] := by kernel_rfl
theorem kp23_16 : E0.kp 23 16 = ([(0, false), (1, false), (2, false), (3, false), (4, false), (17, false), (18, false), (19, false), (20, false), (43, false), (44, false)], [(0, false), (1, false), (2, false), (3, false), (4, false), (17, false), (19, false), (43, false), (44, false)]) := by kernel_rfl
theorem ow23_16 : E0.own 23 16 = [] := by kernel_rfl
theorem lp23_16 : ((E0.P.funcs[23]?).bind fun fn => fn.body.bind (findLoop 16)) = some (loopIn Try.f23 16) := by kernel_rfl
theorem kp23_11 : E0.kp 23 11 = ([(0, false), (1, false), (2, false), (3, false), (4, false), (43, false), (44, false)], []) := by kernel_rfl
theorem ow23_11 : E0.own 23 11 = [] := by kernel_rfl
theorem lp23_11 : ((E0.P.funcs[23]?).bind fun fn => fn.body.bind (findLoop 11)) = some (loopIn Try.f23 11) := by kernel_rfl
theorem kp23_6 : E0.kp 23 6 = ([(0, false), (1, false), (2, false), (3, false), (4, false), (13, false), (32, false), (33, false), (34, false)], [(0, false), (1, false), (2, false), (3, false), (4, false), (13, false)]) := by kernel_rfl
theorem ow23_6 : E0.own 23 6 = [] := by kernel_rfl
theorem lp23_6 : ((E0.P.funcs[23]?).bind fun fn => fn.body.bind (findLoop 6)) = some (loopIn Try.f23 6) := by kernel_rfl
/-! quadrat/guard.SafeNest -/
theorem fn24 : E0.P.funcs[24]? = some Try.f24 := Try.func24
theorem body24 : Try.f24.body = some (codeOf Try.f24) := by kernel_rfl
theorem ok24 : okFunc Try.f24 = true := by kernel_rfl
theorem kr24 : E0.kr 24 = [(10, false), (11, false)] := by kernel_rfl
theorem kp24_6 : E0.kp 24 6 = ([(1, false), (3, false), (4, false), (13, false), (14, false), (32, false), (33, false), (34, false)], [(3, false), (4, false), (13, false), (14, false)]) := by kernel_rfl
theorem ow24_6 : E0.own 24 6 = [] := by kernel_rfl
theorem lp24_6 : ((E0.P.funcs[24]?).bind fun fn => fn.body.bind (findLoop 6)) = some (loopIn Try.f24 6) := by kernel_rfl
/-! quadrat/quadratref22.SafeNest -/
theorem fn25 : E0.P.funcs[25]? = some Try.f25 := Try.func25
theorem body25 : Try.f25.body = some (codeOf Try.f25) := by kernel_rfl
theorem ok25 : okFunc Try.f25 = true := by kernel_rfl
theorem kr25 : E0.kr 25 = [(10, false), (11, false)] := by kernel_rfl
/-! quadrat/quadratref22.FirstNest -/
theorem fn26 : E0.P.funcs[26]? = some Try.f26 := Try.func26
theorem body26 : Try.f26.body = some (codeOf Try.f26) := by kernel_rfl
theorem ok26 : okFunc Try.f26 = true := by kernel_rfl
theorem kr26 : E0.kr 26 = [(10, false), (11, false)] := by kernel_rfl
/-! quadrat/guard.turns -/
theorem fn27 : E0.P.funcs[27]? = some Try.f27 := Try.func27
theorem body27 : Try.f27.body = some (codeOf Try.f27) := by kernel_rfl
theorem ok27 : okFunc Try.f27 = true := by kernel_rfl
theorem kr27 : E0.kr 27 = [(2, false)] := by kernel_rfl
/-! quadrat/guard.asked -/
theorem fn29 : E0.P.funcs[29]? = some Try.f29 := Try.func29
theorem body29 : Try.f29.body = some (codeOf Try.f29) := by kernel_rfl
theorem ok29 : okFunc Try.f29 = true := by kernel_rfl
theorem kr29 : E0.kr 29 = [(4, false)] := by kernel_rfl
/-! quadrat/guard.ceil -/
theorem fn30 : E0.P.funcs[30]? = some Try.f30 := Try.func30
theorem body30 : Try.f30.body = some (codeOf Try.f30) := by kernel_rfl
theorem ok30 : okFunc Try.f30 = true := by kernel_rfl
theorem kr30 : E0.kr 30 = [(4, false)] := by kernel_rfl
/-! quadrat/guard.floor -/
theorem fn31 : E0.P.funcs[31]? = some Try.f31 := Try.func31
theorem body31 : Try.f31.body = some (codeOf Try.f31) := by kernel_rfl
theorem ok31 : okFunc Try.f31 = true := by kernel_rfl
theorem kr31 : E0.kr 31 = [(4, false)] := by kernel_rfl
/-! quadrat/guard.members -/
theorem fn35 : E0.P.funcs[35]? = some Try.f35 := Try.func35
theorem body35 : Try.f35.body = some (codeOf Try.f35) := by kernel_rfl
theorem ok35 : okFunc Try.f35 = true := by kernel_rfl
theorem kr35 : E0.kr 35 = [(6, false)] := by kernel_rfl
/-! quadrat/guard.nest -/
theorem fn39 : E0.P.funcs[39]? = some Try.f39 := Try.func39
theorem body39 : Try.f39.body = some (codeOf Try.f39) := by kernel_rfl
theorem ok39 : okFunc Try.f39 = true := by kernel_rfl
theorem kr39 : E0.kr 39 = [(6, false)] := by kernel_rfl
theorem kp39_7 : E0.kp 39 7 = ([(7, false), (37, false), (38, false), (39, false)], [(7, false)]) := by kernel_rfl
theorem ow39_7 : E0.own 39 7 = [] := by kernel_rfl
theorem lp39_7 : ((E0.P.funcs[39]?).bind fun fn => fn.body.bind (findLoop 7)) = some (loopIn Try.f39 7) := by kernel_rfl
/-! quadrat/quadratref22.nested -/
theorem fn40 : E0.P.funcs[40]? = some Try.f40 := Try.func40
theorem body40 : Try.f40.body = some (codeOf Try.f40) := by kernel_rfl
theorem ok40 : okFunc Try.f40 = true := by kernel_rfl
theorem kr40 : E0.kr 40 = [(10, false)] := by kernel_rfl
theorem kp40_11 : E0.kp 40 11 = ([(0, false), (12, false), (13, false), (14, false)], [(12, false), (13, false)]) := by kernel_rfl
theorem ow40_11 : E0.own 40 11 = [] := by kernel_rfl
theorem lp40_11 : ((E0.P.funcs[40]?).bind fun fn => fn.body.bind (findLoop 11)) = some (loopIn Try.f40 11) := by kernel_rfl
theorem kp40_2 : E0.kp 40 2 = ([(0, false), (1, false), (2, false), (3, false), (4, false), (11, false)], [(0, false), (1, false), (2, false), (3, false), (4, false)]) := by kernel_rfl
theorem ow40_2 : E0.own 40 2 = [] := by kernel_rfl
theorem lp40_2 : ((E0.P.funcs[40]?).bind fun fn => fn.body.bind (findLoop 2)) = some (loopIn Try.f40 2) := by kernel_rfl
/-! quadrat/quadratref22.first -/
theorem fn41 : E0.P.funcs[41]? = some Try.f41 := Try.func41
theorem body41 : Try.f41.body = some (codeOf Try.f41) := by kernel_rfl
theorem ok41 : okFunc Try.f41 = true := by kernel_rfl
theorem kr41 : E0.kr 41 = [(12, false)] := by kernel_rfl
theorem kp41_7 : E0.kp 41 7 = ([(0, false), (1, false), (2, false), (3, false), (4, false), (5, false), (13, false), (14, false)], []) := by kernel_rfl
theorem ow41_7 : E0.own 41 7 = [] := by kernel_rfl
theorem lp41_7 : ((E0.P.funcs[41]?).bind fun fn => fn.body.bind (findLoop 7)) = some (loopIn Try.f41 7) := by kernel_rfl
/-! quadrat/section.Count -/
theorem fn42 : E0.P.funcs[42]? = some Try.f42 := Try.func42
theorem body42 : Try.f42.body = some (codeOf Try.f42) := by kernel_rfl
theorem ok42 : okFunc Try.f42 = true := by kernel_rfl
theorem kr42 : E0.kr 42 = [(2, false), (3, false)] := by kernel_rfl
/-! quadrat/guard.isNumber -/
theorem fn37 : E0.P.funcs[37]? = some Try.f37 := Try.func37
theorem body37 : Try.f37.body = some (codeOf Try.f37) := by kernel_rfl
theorem ok37 : okFunc Try.f37 = true := by kernel_rfl
theorem kr37 : E0.kr 37 = [(2, false)] := by kernel_rfl
/-! slices.ContainsFunc[[]quadrat/api.Triple,quadrat/api.Triple] -/
theorem fn46 : E0.P.funcs[46]? = some Try.f46 := Try.func46
theorem body46 : Try.f46.body = some (codeOf Try.f46) := by kernel_rfl
theorem ok46 : okFunc Try.f46 = true := by kernel_rfl
theorem kr46 : E0.kr 46 = [(4, false)] := by kernel_rfl
/-! quadrat/guard.nest$1 -/
theorem fn47 : E0.P.funcs[47]? = some Try.f47 := Try.func47
theorem body47 : Try.f47.body = some (codeOf Try.f47) := by kernel_rfl
theorem ok47 : okFunc Try.f47 = true := by kernel_rfl
theorem kr47 : E0.kr 47 = [(2, false)] := by kernel_rfl
/-! quadrat/quadratref22.turns -/
theorem fn28 : E0.P.funcs[28]? = some Try.f28 := Try.func28
theorem body28 : Try.f28.body = some (codeOf Try.f28) := by kernel_rfl
theorem ok28 : okFunc Try.f28 = true := by kernel_rfl
theorem kr28 : E0.kr 28 = [(2, false)] := by kernel_rfl
/-! quadrat/quadratref22.near -/
theorem fn38 : E0.P.funcs[38]? = some Try.f38 := Try.func38
theorem body38 : Try.f38.body = some (codeOf Try.f38) := by kernel_rfl
theorem ok38 : okFunc Try.f38 = true := by kernel_rfl
theorem kr38 : E0.kr 38 = [(2, false)] := by kernel_rfl
theorem kp38_2 : E0.kp 38 2 = ([(0, false), (3, false)], []) := by kernel_rfl
theorem ow38_2 : E0.own 38 2 = [] := by kernel_rfl
theorem lp38_2 : ((E0.P.funcs[38]?).bind fun fn => fn.body.bind (findLoop 2)) = some (loopIn Try.f38 2) := by kernel_rfl
/-! quadrat/quadratref22.none -/
theorem fn48 : E0.P.funcs[48]? = some Try.f48 := Try.func48
theorem body48 : Try.f48.body = some (codeOf Try.f48) := by kernel_rfl
theorem ok48 : okFunc Try.f48 = true := by kernel_rfl
theorem kr48 : E0.kr 48 = [(2, false)] := by kernel_rfl
theorem kp48_2 : E0.kp 48 2 = ([(0, false), (3, false)], []) := by kernel_rfl
theorem ow48_2 : E0.own 48 2 = [] := by kernel_rfl
theorem lp48_2 : ((E0.P.funcs[48]?).bind fun fn => fn.body.bind (findLoop 2)) = some (loopIn Try.f48 2) := by kernel_rfl
/-! quadrat/section.isNumber -/
theorem fn49 : E0.P.funcs[49]? = some Try.f49 := Try.func49
theorem body49 : Try.f49.body = some (codeOf Try.f49) := by kernel_rfl
theorem ok49 : okFunc Try.f49 = true := by kernel_rfl
theorem kr49 : E0.kr 49 = [(2, false)] := by kernel_rfl
/-! slices.ContainsFunc[[]int,int] -/
theorem fn44 : E0.P.funcs[44]? = some Try.f44 := Try.func44
theorem body44 : Try.f44.body = some (codeOf Try.f44) := by kernel_rfl
theorem ok44 : okFunc Try.f44 = true := by kernel_rfl
theorem kr44 : E0.kr 44 = [(4, false)] := by kernel_rfl
/-! quadrat/guard.isNumber$1 -/
theorem fn45 : E0.P.funcs[45]? = some Try.f45 := Try.func45
theorem body45 : Try.f45.body = some (codeOf Try.f45) := by kernel_rfl
theorem ok45 : okFunc Try.f45 = true := by kernel_rfl
theorem kr45 : E0.kr 45 = [(2, false)] := by kernel_rfl
/-! slices.IndexFunc[[]quadrat/api.Triple,quadrat/api.Triple] -/
theorem fn51 : E0.P.funcs[51]? = some Try.f51 := Try.func51
theorem body51 : Try.f51.body = some (codeOf Try.f51) := by kernel_rfl
theorem ok51 : okFunc Try.f51 = true := by kernel_rfl
theorem kr51 : E0.kr 51 = [(4, false)] := by kernel_rfl
theorem kp51_2 : E0.kp 51 2 = ([(0, false), (1, false), (7, false), (8, false)], []) := by kernel_rfl
theorem ow51_2 : E0.own 51 2 = [] := by kernel_rfl
theorem lp51_2 : ((E0.P.funcs[51]?).bind fun fn => fn.body.bind (findLoop 2)) = some (loopIn Try.f51 2) := by kernel_rfl
/-! slices.IndexFunc[[]int,int] -/
theorem fn50 : E0.P.funcs[50]? = some Try.f50 := Try.func50
theorem body50 : Try.f50.body = some (codeOf Try.f50) := by kernel_rfl
theorem ok50 : okFunc Try.f50 = true := by kernel_rfl
theorem kr50 : E0.kr 50 = [(4, false)] := by kernel_rfl
theorem kp50_2 : E0.kp 50 2 = ([(0, false), (1, false), (7, false), (8, false)], []) := by kernel_rfl
theorem ow50_2 : E0.own 50 2 = [] := by kernel_rfl
theorem lp50_2 : ((E0.P.funcs[50]?).bind fun fn => fn.body.bind (findLoop 2)) = some (loopIn Try.f50 2) := by kernel_rfl
end Go.Proofs.Ytopnopepcpepbaa.Tev
