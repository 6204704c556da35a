/- What the evaluator asks of this program: types, functions, loops (printed by wip/tools/tx.py; every equation checked by the kernel). -/
import Derived.Test.YtancjhajhdhfbaaProg
import Derived.Test.YtancjhajhdhfbaaTevSl
import Derived.KernelRfl
namespace Go.Proofs.Ytancjhajhdhfbaa.Tev
open Go Go.RowKit Go.Proofs
set_option maxRecDepth 100000
set_option linter.unusedVariables false
set_option linter.unusedSimpArgs false
set_option linter.unusedSectionVars false
structure LpRow where
  f : Nat
  id : Nat
  k1 : Keep
  k2 : Keep
  ow : List (Nat × Option Nat × Nat)
def rows : List LpRow := [
  ⟨12, 16, [(8, false), (11, false), (12, false), (52, false), (53, false), (54, false), (61, false), (62, false), (63, false)], [(8, false), (11, false), (52, false), (53, false), (54, false)], [(11, none, 2)]⟩,
  ⟨12, 13, [(8, false), (11, false), (52, false), (53, false), (54, false)], [(11, false)], [(11, none, 2)]⟩,
  ⟨12, 7, [(0, false), (4, false), (8, false), (34, false), (35, false), (36, false)], [(0, false), (4, false), (8, false)], []⟩,
  ⟨14, 6, [(10, false), (23, false), (24, false), (25, false)], [(10, false)], [(10, none, 1)]⟩,
  ⟨15, 10, [(8, false), (10, false), (11, false), (12, false), (13, false)], [(8, false), (10, false), (11, false), (12, false)], []⟩,
  ⟨15, 6, [(8, false), (10, false), (11, false)], [(10, false)], [(10, none, 1)]⟩,
  ⟨16, 4, [(0, false), (1, false), (5, false)], [], []⟩,
  ⟨17, 4, [(0, false), (1, false), (5, false)], [], []⟩,
  ⟨21, 6, [(8, false), (10, false), (11, false), (12, false)], [(8, false), (10, false), (11, false)], []⟩,
  ⟨25, 3, [(2, false), (8, false), (9, false), (10, false)], [(9, false)], []⟩,
  ⟨27, 6, [(6, false), (7, false), (8, false), (9, false)], [(6, false), (7, false), (8, false)], []⟩,
  ⟨27, 3, [(6, false), (7, false), (8, false)], [(7, false)], []⟩,
  ⟨29, 4, [(3, false), (5, false)], [], []⟩,
  ⟨30, 7, [(4, false), (5, false), (8, false), (32, false), (33, false), (34, false)], [(4, false), (5, false), (8, false)], []⟩,
  ⟨31, 7, [(0, false), (4, false), (5, false), (8, false), (9, false)], [(4, false), (5, false), (8, false)], []⟩,
  ⟨33, 8, [(8, false), (9, false), (10, false), (11, false), (12, false), (13, false), (14, false)], [(10, false), (11, false), (12, false), (13, false)], []⟩,
  ⟨34, 12, [(0, false), (3, false), (5, false)], [(3, false)], []⟩,
  ⟨34, 5, [(0, false), (3, false), (4, false)], [(0, false), (3, false)], []⟩,
  ⟨35, 12, [(3, false), (5, false), (6, false), (7, false), (8, true), (9, false), (18, false), (19, false), (20, false), (31, false), (32, false), (33, false)], [(3, false), (5, false), (6, false), (7, false), (8, false), (9, false), (18, false), (19, false), (20, false)], [(5, none, 1)]⟩,
  ⟨35, 9, [(3, false), (5, false), (6, false), (7, false), (8, true), (9, false), (18, false), (19, false), (20, false)], [(3, false), (5, false), (18, false), (19, false), (20, false)], [(5, none, 1)]⟩,
  ⟨35, 5, [(3, false), (5, false), (18, false), (19, false), (20, false)], [(5, false)], [(5, none, 1)]⟩,
  ⟨37, 9, [(7, false), (8, false), (9, false), (10, false), (11, false)], [(7, false), (8, false), (9, false), (10, false)], [(7, none, 2)]⟩,
  ⟨37, 6, [(7, false), (8, false), (9, false), (10, false)], [(7, false)], [(7, none, 2)]⟩,
  ⟨40, 3, [(0, false), (3, false), (5, false), (6, false)], [(5, false)], [(5, none, 1)]⟩,
  ⟨41, 5, [(3, false), (18, false), (19, false), (20, false)], [(3, false)], []⟩,
  ⟨42, 3, [(3, false), (4, false), (5, false), (13, false), (14, false), (15, false)], [(4, false), (5, false)], []⟩,
  ⟨47, 1, [(0, false), (1, false)], [(0, false)], []⟩,
  ⟨48, 2, [(0, false), (1, false)], [(0, false)], []⟩,
  ⟨51, 4, [(4, false), (7, false), (8, false), (9, false)], [(8, false)], []⟩,
  ⟨53, 2, [(0, false), (1, false), (7, false), (8, false)], [], []⟩,
  ⟨65, 3, [(0, false), (1, false), (5, false), (6, false)], [(5, false)], [(5, none, 1)]⟩]
def rowOf : List LpRow → Nat → Nat → LpRow
  | [], _, _ => ⟨0, 0, [], [], []⟩
  | r :: l, f, id => bif r.f == f && r.id == id then r else rowOf l f id
def rets : List (Nat × Keep) := [(3, [(6, false)]), (5, [(6, false)]), (6, [(6, false)]), (7, [(6, false)]), (8, [(6, false)]), (4, [(6, false)]), (9, [(2, false)]), (10, [(4, false)]), (11, [(0, false)]), (12, [(6, false), (7, false)]), (13, [(6, false), (7, false)]), (14, [(6, false), (7, false)]), (15, [(6, false), (7, false)]), (16, [(4, false)]), (17, [(4, false)]), (18, [(6, false), (7, false)]), (19, [(6, false), (7, false)]), (20, [(6, false), (7, false)]), (21, [(6, false), (7, false)]), (22, [(4, false), (5, false)]), (23, [(4, false), (5, false)]), (24, [(6, false), (7, false)]), (25, [(6, false), (7, false)]), (26, [(4, false), (5, false)]), (27, [(4, false), (5, false)]), (28, [(4, false)]), (29, [(4, false)]), (30, [(6, false), (7, false)]), (31, [(6, false), (7, false)]), (32, [(6, false), (7, false)]), (33, [(6, false), (7, false)]), (34, [(2, false)]), (35, [(4, false)]), (36, [(6, false)]), (37, [(6, false)]), (40, [(4, false)]), (41, [(2, false)]), (42, [(4, false), (5, false)]), (43, [(2, false)]), (44, [(4, false)]), (45, [(2, false)]), (46, [(2, false)]), (47, [(4, false)]), (48, [(4, false)]), (51, [(6, false)]), (52, [(2, false)]), (53, [(4, false)]), (65, [(4, false)])]
def retOf : List (Nat × Keep) → Nat → Keep
  | [], _ => []
  | r :: l, f => bif r.1 == f then r.2 else retOf l f
noncomputable def E0 : Env := ⟨Try.prog, fun f id => let r := rowOf rows f id; (r.k1, r.k2), fun f id => (rowOf rows f id).ow, fun f => retOf rets f, fun f id => []⟩
theorem E0fz (f id : Nat) : E0.fz f id = [] := rfl
theorem E0P : E0.P = Try.prog := rfl
def codeOf (fn : Func) : Code := fn.body.getD .skip
def loopIn (fn : Func) (id : Nat) : Code := (fn.body.bind (findLoop id)).getD .skip
theorem ty3 : szOf Try.prog 3 = some 1 ∧ bytesOf Try.prog 3 = some 8 ∧ zeroOf Try.prog 3 = some [.c (.v (.int .i64 0))] ∧ aggOf Try.prog 3 = some false ∧ zero1 Try.prog 3 = some (.c (.v (.int .i64 0))) ∧ cellTys Try.prog 8 3 = some [none] := ⟨by kernel_rfl, by kernel_rfl, by kernel_rfl, by kernel_rfl, by kernel_rfl, by kernel_rfl⟩
theorem ty4 : szOf Try.prog 4 = some 1 ∧ bytesOf Try.prog 4 = some 1 ∧ zeroOf Try.prog 4 = some [B false] ∧ aggOf Try.prog 4 = some false ∧ zero1 Try.prog 4 = some (B false) ∧ Try.prog.underlying 4 = some .bool ∧ cellTys Try.prog 8 4 = some [none] := ⟨by kernel_rfl, by kernel_rfl, by kernel_rfl, by kernel_rfl, by kernel_rfl, by kernel_rfl, by kernel_rfl⟩
theorem ty9 : szOf Try.prog 9 = some 1 ∧ bytesOf Try.prog 9 = some 16 ∧ zeroOf Try.prog 9 = some [.c (.v (.string ⟨#[]⟩))] ∧ aggOf Try.prog 9 = some false ∧ zero1 Try.prog 9 = some (.c (.v (.string ⟨#[]⟩))) ∧ Try.prog.underlying 9 = some .string ∧ cellTys Try.prog 8 9 = some [none] := ⟨by kernel_rfl, by kernel_rfl, by kernel_rfl, by kernel_rfl, by kernel_rfl, by kernel_rfl, by kernel_rfl⟩
theorem ty22 : szOf Try.prog 22 = some 1 ∧ bytesOf Try.prog 22 = some 24 ∧ zeroOf Try.prog 22 = some [.c (.s (some 0) 0 [])] ∧ aggOf Try.prog 22 = some false ∧ zero1 Try.prog 22 = some (.c (.s (some 0) 0 [])) ∧ elemOf Try.prog 22 = some 3 ∧ Try.prog.underlying 22 = some (.slice 3) ∧ cellTys Try.prog 8 22 = some [some 1] := ⟨by kernel_rfl, by kernel_rfl, by kernel_rfl, by kernel_rfl, by kernel_rfl, by kernel_rfl, by kernel_rfl, by kernel_rfl⟩
theorem ty24 : szOf Try.prog 24 = some 3 ∧ bytesOf Try.prog 24 = some 40 ∧ zeroOf Try.prog 24 = some [.c (.v (.int .i64 0)), .c (.v (.int .i64 0)), .c (.s (some 0) 0 [])] ∧ aggOf Try.prog 24 = some true ∧ fieldOf Try.prog 24 0 = some (0, 3) ∧ fieldOf Try.prog 24 1 = some (1, 3) ∧ fieldOf Try.prog 24 2 = some (2, 22) ∧ placesOf Try.prog 24 = some (.st [(0, 1), (1, 1), (2, 1)]) ∧ cellTys Try.prog 8 24 = some [none, none, some 1] := ⟨by kernel_rfl, by kernel_rfl, by kernel_rfl, by kernel_rfl, by kernel_rfl, by kernel_rfl, by kernel_rfl, by kernel_rfl, by kernel_rfl⟩
theorem ty28 : szOf Try.prog 28 = some 1 ∧ bytesOf Try.prog 28 = some 24 ∧ zeroOf Try.prog 28 = some [.c (.s (some 0) 0 [])] ∧ aggOf Try.prog 28 = some false ∧ zero1 Try.prog 28 = some (.c (.s (some 0) 0 [])) ∧ elemOf Try.prog 28 = some 49 ∧ Try.prog.underlying 28 = some (.slice 49) ∧ cellTys Try.prog 8 28 = some [some 2] := ⟨by kernel_rfl, by kernel_rfl, by kernel_rfl, by kernel_rfl, by kernel_rfl, by kernel_rfl, by kernel_rfl, by kernel_rfl⟩
theorem ty29 : szOf Try.prog 29 = some 1 ∧ bytesOf Try.prog 29 = some 8 ∧ zeroOf Try.prog 29 = some [.c (.v (.int .i64 0))] ∧ aggOf Try.prog 29 = some false ∧ zero1 Try.prog 29 = some (.c (.v (.int .i64 0))) ∧ cellTys Try.prog 8 29 = some [none] := ⟨by kernel_rfl, by kernel_rfl, by kernel_rfl, by kernel_rfl, by kernel_rfl, by kernel_rfl⟩
theorem ty47 : szOf Try.prog 47 = some 1 ∧ bytesOf Try.prog 47 = some 8 ∧ zeroOf Try.prog 47 = some [.junk] ∧ aggOf Try.prog 47 = some false ∧ zero1 Try.prog 47 = some (.junk) ∧ isIntMap Try.prog 47 = some 22 ∧ Try.prog.underlying 47 = some (.map 3 22) ∧ cellTys Try.prog 8 47 = some [none] := ⟨by kernel_rfl, by kernel_rfl, by kernel_rfl, by kernel_rfl, by kernel_rfl, by kernel_rfl, by kernel_rfl, by kernel_rfl⟩
theorem ty49 : szOf Try.prog 49 = some 2 ∧ bytesOf Try.prog 49 = some 16 ∧ zeroOf Try.prog 49 = some [.c (.v (.int .i64 0)), .c (.v (.int .i64 0))] ∧ aggOf Try.prog 49 = some true ∧ arrOf Try.prog 49 = some (2, 3) ∧ placesOf Try.prog 49 = some (.ar 1) ∧ elemOf Try.prog 49 = none ∧ cellTys Try.prog 8 49 = some [none, none] := ⟨by kernel_rfl, by kernel_rfl, by kernel_rfl, by kernel_rfl, by kernel_rfl, by kernel_rfl, by kernel_rfl, by kernel_rfl⟩
theorem tb4 : (∀ x y a b, bin2 Try.prog .eql 4 x y (.c (.v (.bool a))) (.c (.v (.bool b))) = some (B (decide (a = b)))) ∧ ∀ x y a b, bin2 Try.prog .neq 4 x y (.c (.v (.bool a))) (.c (.v (.bool b))) = some (B (decide (¬ a = b))) := ⟨fun x y a b => bin_eqlB (by kernel_rfl) x y a b, fun x y a b => bin_neqB (by kernel_rfl) x y a b⟩
/-! quadrat/quadratlaw17.OverlapPairs -/
theorem fn3 : E0.P.funcs[3]? = some Try.f3 := Try.func3
theorem body3 : Try.f3.body = some (codeOf Try.f3) := by kernel_rfl
theorem ok3 : okFunc Try.f3 = true := by kernel_rfl
theorem kr3 : E0.kr 3 = [(6, false)] := by kernel_rfl
/-! quadrat/quadratlaw17.OverlapWays -/
theorem fn5 : E0.P.funcs[5]? = some Try.f5 := Try.func5
theorem body5 : Try.f5.body = some (codeOf Try.f5) := by kernel_rfl
theorem ok5 : okFunc Try.f5 = true := by kernel_rfl
theorem kr5 : E0.kr 5 = [(6, false)] := by kernel_rfl
/-! quadrat/quadratlaw17.OverlapPlaces -/
theorem fn6 : E0.P.funcs[6]? = some Try.f6 := Try.func6
theorem body6 : Try.f6.body = some (codeOf Try.f6) := by kernel_rfl
theorem ok6 : okFunc Try.f6 = true := by kernel_rfl
theorem kr6 : E0.kr 6 = [(6, false)] := by kernel_rfl
/-! quadrat/quadratlaw17.OverlapTests -/
theorem fn7 : E0.P.funcs[7]? = some Try.f7 := Try.func7
theorem body7 : Try.f7.body = some (codeOf Try.f7) := by kernel_rfl
theorem ok7 : okFunc Try.f7 = true := by kernel_rfl
theorem kr7 : E0.kr 7 = [(6, false)] := by kernel_rfl
/-! quadrat/quadratlaw17.OverlapSafe -/
theorem fn8 : E0.P.funcs[8]? = some Try.f8 := Try.func8
theorem body8 : Try.f8.body = some (codeOf Try.f8) := by kernel_rfl
theorem ok8 : okFunc Try.f8 = true := by kernel_rfl
theorem kr8 : E0.kr 8 = [(6, false)] := by kernel_rfl
/-! quadrat/quadratlaw17.OverlapTurned -/
theorem fn4 : E0.P.funcs[4]? = some Try.f4 := Try.func4
theorem body4 : Try.f4.body = some (codeOf Try.f4) := by kernel_rfl
theorem kr4 : E0.kr 4 = [(6, false)] := by kernel_rfl
/-! quadrat/quadratlaw17.isLarge -/
theorem fn9 : E0.P.funcs[9]? = some Try.f9 := Try.func9
theorem body9 : Try.f9.body = some (codeOf Try.f9) := by kernel_rfl
theorem ok9 : okFunc Try.f9 = true := by kernel_rfl
theorem kr9 : E0.kr 9 = [(2, false)] := by kernel_rfl
/-! quadrat/quadratlaw17.isLong -/
theorem fn10 : E0.P.funcs[10]? = some Try.f10 := Try.func10
theorem body10 : Try.f10.body = some (codeOf Try.f10) := by kernel_rfl
theorem ok10 : okFunc Try.f10 = true := by kernel_rfl
theorem kr10 : E0.kr 10 = [(4, false)] := by kernel_rfl
/-! quadrat/quadratlaw17.Awake -/
theorem fn11 : E0.P.funcs[11]? = some Try.f11 := Try.func11
theorem body11 : Try.f11.body = some (codeOf Try.f11) := by kernel_rfl
theorem ok11 : okFunc Try.f11 = true := by kernel_rfl
theorem kr11 : E0.kr 11 = [(0, false)] := by kernel_rfl
/-! quadrat/overlap.Pairs -/
theorem fn12 : E0.P.funcs[12]? = some Try.f12 := Try.func12
theorem body12 : Try.f12.body = some (codeOf Try.f12) := by kernel_rfl
theorem ok12 : okFunc Try.f12 = true := by kernel_rfl
theorem kr12 : E0.kr 12 = [(6, false), (7, false)] := by kernel_rfl
theorem kp12_16 : E0.kp 12 16 = ([(8, false), (11, false), (12, false), (52, false), (53, false), (54, false), (61, false), (62, false), (63, false)], [(8, false), (11, false), (52, false), (53, false), (54, false)]) := by kernel_rfl
theorem ow12_16 : E0.own 12 16 = [(11, none, 2)] := by kernel_rfl
theorem lp12_16 : ((E0.P.funcs[12]?).bind fun fn => fn.body.bind (findLoop 16)) = some (loopIn Try.f12 16) := by kernel_rfl
theorem kp12_13 : E0.kp 12 13 = ([(8, false), (11, false), (52, false), (53, false), (54, false)], [(11, false)]) := by kernel_rfl
theorem ow12_13 : E0.own 12 13 = [(11, none, 2)] := by kernel_rfl
theorem lp12_13 : ((E0.P.funcs[12]?).bind fun fn => fn.body.bind (findLoop 13)) = some (loopIn Try.f12 13) := by kernel_rfl
theorem kp12_7 : E0.kp 12 7 = ([(0, false), (4, false), (8, false), (34, false), (35, false), (36, false)], [(0, false), (4, false), (8, false)]) := by kernel_rfl
theorem ow12_7 : E0.own 12 7 = [] := by kernel_rfl
theorem lp12_7 : ((E0.P.funcs[12]?).bind fun fn => fn.body.bind (findLoop 7)) = some (loopIn Try.f12 7) := by kernel_rfl
/-! quadrat/quadratref17.Pairs -/
theorem fn13 : E0.P.funcs[13]? = some Try.f13 := Try.func13
theorem body13 : Try.f13.body = some (codeOf Try.f13) := by kernel_rfl
theorem ok13 : okFunc Try.f13 = true := by kernel_rfl
theorem kr13 : E0.kr 13 = [(6, false), (7, false)] := by kernel_rfl
/-! quadrat/overlap.Distances -/
theorem fn14 : E0.P.funcs[14]? = some Try.f14 := Try.func14
theorem body14 : Try.f14.body = some (codeOf Try.f14) := by kernel_rfl
theorem ok14 : okFunc Try.f14 = true := by kernel_rfl
theorem kr14 : E0.kr 14 = [(6, false), (7, false)] := by kernel_rfl
theorem kp14_6 : E0.kp 14 6 = ([(10, false), (23, false), (24, false), (25, false)], [(10, false)]) := by kernel_rfl
theorem ow14_6 : E0.own 14 6 = [(10, none, 1)] := by kernel_rfl
theorem lp14_6 : ((E0.P.funcs[14]?).bind fun fn => fn.body.bind (findLoop 6)) = some (loopIn Try.f14 6) := by kernel_rfl
/-! quadrat/quadratref17.Distances -/
theorem fn15 : E0.P.funcs[15]? = some Try.f15 := Try.func15
theorem body15 : Try.f15.body = some (codeOf Try.f15) := by kernel_rfl
theorem ok15 : okFunc Try.f15 = true := by kernel_rfl
theorem kr15 : E0.kr 15 = [(6, false), (7, false)] := by kernel_rfl
theorem kp15_10 : E0.kp 15 10 = ([(8, false), (10, false), (11, false), (12, false), (13, false)], [(8, false), (10, false), (11, false), (12, false)]) := by kernel_rfl
theorem ow15_10 : E0.own 15 10 = [] := by kernel_rfl
theorem lp15_10 : ((E0.P.funcs[15]?).bind fun fn => fn.body.bind (findLoop 10)) = some (loopIn Try.f15 10) := by kernel_rfl
theorem kp15_6 : E0.kp 15 6 = ([(8, false), (10, false), (11, false)], [(10, false)]) := by kernel_rfl
theorem ow15_6 : E0.own 15 6 = [(10, none, 1)] := by kernel_rfl
theorem lp15_6 : ((E0.P.funcs[15]?).bind fun fn => fn.body.bind (findLoop 6)) = some (loopIn Try.f15 6) := by kernel_rfl
/-! quadrat/quadratref17.SamePairs -/
theorem fn16 : E0.P.funcs[16]? = some Try.f16 := Try.func16
theorem body16 : Try.f16.body = some (codeOf Try.f16) := by kernel_rfl
theorem ok16 : okFunc Try.f16 = true := by kernel_rfl
theorem kr16 : E0.kr 16 = [(4, false)] := by kernel_rfl
theorem kp16_4 : E0.kp 16 4 = ([(0, false), (1, false), (5, false)], []) := by kernel_rfl
theorem ow16_4 : E0.own 16 4 = [] := by kernel_rfl
theorem lp16_4 : ((E0.P.funcs[16]?).bind fun fn => fn.body.bind (findLoop 4)) = some (loopIn Try.f16 4) := by kernel_rfl
/-! quadrat/quadratref17.SameInts -/
theorem fn17 : E0.P.funcs[17]? = some Try.f17 := Try.func17
theorem body17 : Try.f17.body = some (codeOf Try.f17) := by kernel_rfl
theorem ok17 : okFunc Try.f17 = true := by kernel_rfl
theorem kr17 : E0.kr 17 = [(4, false)] := by kernel_rfl
theorem kp17_4 : E0.kp 17 4 = ([(0, false), (1, false), (5, false)], []) := by kernel_rfl
theorem ow17_4 : E0.own 17 4 = [] := by kernel_rfl
theorem lp17_4 : ((E0.P.funcs[17]?).bind fun fn => fn.body.bind (findLoop 4)) = some (loopIn Try.f17 4) := by kernel_rfl
/-! quadrat/overlap.Way -/
theorem fn18 : E0.P.funcs[18]? = some Try.f18 := Try.func18
theorem body18 : Try.f18.body = some (codeOf Try.f18) := by kernel_rfl
theorem ok18 : okFunc Try.f18 = true := by kernel_rfl
theorem kr18 : E0.kr 18 = [(6, false), (7, false)] := by kernel_rfl
/-! quadrat/overlap.Meet -/
theorem fn19 : E0.P.funcs[19]? = some Try.f19 := Try.func19
theorem body19 : Try.f19.body = some (codeOf Try.f19) := by kernel_rfl
theorem ok19 : okFunc Try.f19 = true := by kernel_rfl
theorem kr19 : E0.kr 19 = [(6, false), (7, false)] := by kernel_rfl
/-! quadrat/quadratref17.Meet -/
theorem fn20 : E0.P.funcs[20]? = some Try.f20 := Try.func20
theorem body20 : Try.f20.body = some (codeOf Try.f20) := by kernel_rfl
theorem ok20 : okFunc Try.f20 = true := by kernel_rfl
theorem kr20 : E0.kr 20 = [(6, false), (7, false)] := by kernel_rfl
/-! quadrat/quadratref17.Way -/
theorem fn21 : E0.P.funcs[21]? = some Try.f21 := Try.func21
theorem body21 : Try.f21.body = some (codeOf Try.f21) := by kernel_rfl
theorem ok21 : okFunc Try.f21 = true := by kernel_rfl
theorem kr21 : E0.kr 21 = [(6, false), (7, false)] := by kernel_rfl
theorem kp21_6 : E0.kp 21 6 = ([(8, false), (10, false), (11, false), (12, false)], [(8, false), (10, false), (11, false)]) := by kernel_rfl
theorem ow21_6 : E0.own 21 6 = [] := by kernel_rfl
theorem lp21_6 : ((E0.P.funcs[21]?).bind fun fn => fn.body.bind (findLoop 6)) = some (loopIn Try.f21 6) := by kernel_rfl
/-! quadrat/overlap.Places -/
theorem fn22 : E0.P.funcs[22]? = some Try.f22 := Try.func22
theorem body22 : Try.f22.body = some (codeOf Try.f22) := by kernel_rfl
theorem ok22 : okFunc Try.f22 = true := by kernel_rfl
theorem kr22 : E0.kr 22 = [(4, false), (5, false)] := by kernel_rfl
/-! quadrat/quadratref17.Places -/
theorem fn23 : E0.P.funcs[23]? = some Try.f23 := Try.func23
theorem body23 : Try.f23.body = some (codeOf Try.f23) := by kernel_rfl
theorem ok23 : okFunc Try.f23 = true := by kernel_rfl
theorem kr23 : E0.kr 23 = [(4, false), (5, false)] := by kernel_rfl
/-! quadrat/overlap.Inside -/
theorem fn24 : E0.P.funcs[24]? = some Try.f24 := Try.func24
theorem body24 : Try.f24.body = some (codeOf Try.f24) := by kernel_rfl
theorem ok24 : okFunc Try.f24 = true := by kernel_rfl
theorem kr24 : E0.kr 24 = [(6, false), (7, false)] := by kernel_rfl
/-! quadrat/quadratref17.Inside -/
theorem fn25 : E0.P.funcs[25]? = some Try.f25 := Try.func25
theorem body25 : Try.f25.body = some (codeOf Try.f25) := by kernel_rfl
theorem ok25 : okFunc Try.f25 = true := by kernel_rfl
theorem kr25 : E0.kr 25 = [(6, false), (7, false)] := by kernel_rfl
theorem kp25_3 : E0.kp 25 3 = ([(2, false), (8, false), (9, false), (10, false)], [(9, false)]) := by kernel_rfl
theorem ow25_3 : E0.own 25 3 = [] := by kernel_rfl
theorem lp25_3 : ((E0.P.funcs[25]?).bind fun fn => fn.body.bind (findLoop 3)) = some (loopIn Try.f25 3) := by kernel_rfl
/-! quadrat/overlap.Twice -/
theorem fn26 : E0.P.funcs[26]? = some Try.f26 := Try.func26
theorem body26 : Try.f26.body = some (codeOf Try.f26) := by kernel_rfl
theorem ok26 : okFunc Try.f26 = true := by kernel_rfl
theorem kr26 : E0.kr 26 = [(4, false), (5, false)] := by kernel_rfl
/-! quadrat/quadratref17.Twice -/
theorem fn27 : E0.P.funcs[27]? = some Try.f27 := Try.func27
theorem body27 : Try.f27.body = some (codeOf Try.f27) := by kernel_rfl
theorem ok27 : okFunc Try.f27 = true := by kernel_rfl
theorem kr27 : E0.kr 27 = [(4, false), (5, false)] := by kernel_rfl
theorem kp27_6 : E0.kp 27 6 = ([(6, false), (7, false), (8, false), (9, false)], [(6, false), (7, false), (8, false)]) := by kernel_rfl
theorem ow27_6 : E0.own 27 6 = [] := by kernel_rfl
theorem lp27_6 : ((E0.P.funcs[27]?).bind fun fn => fn.body.bind (findLoop 6)) = some (loopIn Try.f27 6) := by kernel_rfl
theorem kp27_3 : E0.kp 27 3 = ([(6, false), (7, false), (8, false)], [(7, false)]) := by kernel_rfl
theorem ow27_3 : E0.own 27 3 = [] := by kernel_rfl
theorem lp27_3 : ((E0.P.funcs[27]?).bind fun fn => fn.body.bind (findLoop 3)) = some (loopIn Try.f27 3) := by kernel_rfl
/-! quadrat/overlap.Valid -/
theorem fn28 : E0.P.funcs[28]? = some Try.f28 := Try.func28
theorem body28 : Try.f28.body = some (codeOf Try.f28) := by kernel_rfl
theorem ok28 : okFunc Try.f28 = true := by kernel_rfl
theorem kr28 : E0.kr 28 = [(4, false)] := by kernel_rfl
/-! quadrat/quadratref17.Valid -/
theorem fn29 : E0.P.funcs[29]? = some Try.f29 := Try.func29
theorem body29 : Try.f29.body = some (codeOf Try.f29) := by kernel_rfl
theorem ok29 : okFunc Try.f29 = true := by kernel_rfl
theorem kr29 : E0.kr 29 = [(4, false)] := by kernel_rfl
theorem kp29_4 : E0.kp 29 4 = ([(3, false), (5, false)], []) := by kernel_rfl
theorem ow29_4 : E0.own 29 4 = [] := by kernel_rfl
theorem lp29_4 : ((E0.P.funcs[29]?).bind fun fn => fn.body.bind (findLoop 4)) = some (loopIn Try.f29 4) := by kernel_rfl
/-! quadrat/overlap.Gcd -/
theorem fn30 : E0.P.funcs[30]? = some Try.f30 := Try.func30
theorem body30 : Try.f30.body = some (codeOf Try.f30) := by kernel_rfl
theorem ok30 : okFunc Try.f30 = true := by kernel_rfl
theorem kr30 : E0.kr 30 = [(6, false), (7, false)] := by kernel_rfl
theorem kp30_7 : E0.kp 30 7 = ([(4, false), (5, false), (8, false), (32, false), (33, false), (34, false)], [(4, false), (5, false), (8, false)]) := by kernel_rfl
theorem ow30_7 : E0.own 30 7 = [] := by kernel_rfl
theorem lp30_7 : ((E0.P.funcs[30]?).bind fun fn => fn.body.bind (findLoop 7)) = some (loopIn Try.f30 7) := by kernel_rfl
/-! quadrat/quadratref17.Gcd -/
theorem fn31 : E0.P.funcs[31]? = some Try.f31 := Try.func31
theorem body31 : Try.f31.body = some (codeOf Try.f31) := by kernel_rfl
theorem ok31 : okFunc Try.f31 = true := by kernel_rfl
theorem kr31 : E0.kr 31 = [(6, false), (7, false)] := by kernel_rfl
theorem kp31_7 : E0.kp 31 7 = ([(0, false), (4, false), (5, false), (8, false), (9, false)], [(4, false), (5, false), (8, false)]) := by kernel_rfl
theorem ow31_7 : E0.own 31 7 = [] := by kernel_rfl
theorem lp31_7 : ((E0.P.funcs[31]?).bind fun fn => fn.body.bind (findLoop 7)) = some (loopIn Try.f31 7) := by kernel_rfl
/-! quadrat/overlap.Range -/
theorem fn32 : E0.P.funcs[32]? = some Try.f32 := Try.func32
theorem body32 : Try.f32.body = some (codeOf Try.f32) := by kernel_rfl
theorem ok32 : okFunc Try.f32 = true := by kernel_rfl
theorem kr32 : E0.kr 32 = [(6, false), (7, false)] := by kernel_rfl
/-! quadrat/quadratref17.Range -/
theorem fn33 : E0.P.funcs[33]? = some Try.f33 := Try.func33
theorem body33 : Try.f33.body = some (codeOf Try.f33) := by kernel_rfl
theorem ok33 : okFunc Try.f33 = true := by kernel_rfl
theorem kr33 : E0.kr 33 = [(6, false), (7, false)] := by kernel_rfl
theorem kp33_8 : E0.kp 33 8 = ([(8, false), (9, false), (10, false), (11, false), (12, false), (13, false), (14, false)], [(10, false), (11, false), (12, false), (13, false)]) := by kernel_rfl
theorem ow33_8 : E0.own 33 8 = [] := by kernel_rfl
theorem lp33_8 : ((E0.P.funcs[33]?).bind fun fn => fn.body.bind (findLoop 8)) = some (loopIn Try.f33 8) := by kernel_rfl
/-! quadrat/quadratref17.Turns -/
theorem fn34 : E0.P.funcs[34]? = some Try.f34 := Try.func34
theorem body34 : Try.f34.body = some (codeOf Try.f34) := by kernel_rfl
theorem ok34 : okFunc Try.f34 = true := by kernel_rfl
theorem kr34 : E0.kr 34 = [(2, false)] := by kernel_rfl
theorem kp34_12 : E0.kp 34 12 = ([(0, false), (3, false), (5, false)], [(3, false)]) := by kernel_rfl
theorem ow34_12 : E0.own 34 12 = [] := by kernel_rfl
theorem lp34_12 : ((E0.P.funcs[34]?).bind fun fn => fn.body.bind (findLoop 12)) = some (loopIn Try.f34 12) := by kernel_rfl
theorem kp34_5 : E0.kp 34 5 = ([(0, false), (3, false), (4, false)], [(0, false), (3, false)]) := by kernel_rfl
theorem ow34_5 : E0.own 34 5 = [] := by kernel_rfl
theorem lp34_5 : ((E0.P.funcs[34]?).bind fun fn => fn.body.bind (findLoop 5)) = some (loopIn Try.f34 5) := by kernel_rfl
/-! quadrat/overlap.places -/
theorem fn35 : E0.P.funcs[35]? = some Try.f35 := Try.func35
theorem body35 : Try.f35.body = some (codeOf Try.f35) := by kernel_rfl
theorem ok35 : okFunc Try.f35 = true := by kernel_rfl
theorem kr35 : E0.kr 35 = [(4, false)] := by kernel_rfl
theorem kp35_12 : E0.kp 35 12 = ([(3, false), (5, false), (6, false), (7, false), (8, true), (9, false), (18, false), (19, false), (20, false), (31, false), (32, false), (33, false)], [(3, false), (5, false), (6, false), (7, false), (8, false), (9, false), (18, false), (19, false), (20, false)]) := by kernel_rfl
theorem ow35_12 : E0.own 35 12 = [(5, none, 1)] := by kernel_rfl
theorem lp35_12 : ((E0.P.funcs[35]?).bind fun fn => fn.body.bind (findLoop 12)) = some (loopIn Try.f35 12) := by kernel_rfl
theorem kp35_9 : E0.kp 35 9 = ([(3, false), (5, false), (6, false), (7, false), (8, true), (9, false), (18, false), (19, false), (20, false)], [(3, false), (5, false), (18, false), (19, false), (20, false)]) := by kernel_rfl
theorem ow35_9 : E0.own 35 9 = [(5, none, 1)] := by kernel_rfl
theorem lp35_9 : ((E0.P.funcs[35]?).bind fun fn => fn.body.bind (findLoop 9)) = some (loopIn Try.f35 9) := by kernel_rfl
theorem kp35_5 : E0.kp 35 5 = ([(3, false), (5, false), (18, false), (19, false), (20, false)], [(5, false)]) := by kernel_rfl
theorem ow35_5 : E0.own 35 5 = [(5, none, 1)] := by kernel_rfl
theorem lp35_5 : ((E0.P.funcs[35]?).bind fun fn => fn.body.bind (findLoop 5)) = some (loopIn Try.f35 5) := by kernel_rfl
/-! quadrat/quadratref17.asked -/
theorem fn36 : E0.P.funcs[36]? = some Try.f36 := Try.func36
theorem body36 : Try.f36.body = some (codeOf Try.f36) := by kernel_rfl
theorem ok36 : okFunc Try.f36 = true := by kernel_rfl
theorem kr36 : E0.kr 36 = [(6, false)] := by kernel_rfl
/-! quadrat/quadratref17.Meetings -/
theorem fn37 : E0.P.funcs[37]? = some Try.f37 := Try.func37
theorem body37 : Try.f37.body = some (codeOf Try.f37) := by kernel_rfl
theorem ok37 : okFunc Try.f37 = true := by kernel_rfl
theorem kr37 : E0.kr 37 = [(6, false)] := by kernel_rfl
theorem kp37_9 : E0.kp 37 9 = ([(7, false), (8, false), (9, false), (10, false), (11, false)], [(7, false), (8, false), (9, false), (10, false)]) := by kernel_rfl
theorem ow37_9 : E0.own 37 9 = [(7, none, 2)] := by kernel_rfl
theorem lp37_9 : ((E0.P.funcs[37]?).bind fun fn => fn.body.bind (findLoop 9)) = some (loopIn Try.f37 9) := by kernel_rfl
theorem kp37_6 : E0.kp 37 6 = ([(7, false), (8, false), (9, false), (10, false)], [(7, false)]) := by kernel_rfl
theorem ow37_6 : E0.own 37 6 = [(7, none, 2)] := by kernel_rfl
theorem lp37_6 : ((E0.P.funcs[37]?).bind fun fn => fn.body.bind (findLoop 6)) = some (loopIn Try.f37 6) := by kernel_rfl
/-! quadrat/quadratref17.All -/
theorem fn40 : E0.P.funcs[40]? = some Try.f40 := Try.func40
theorem body40 : Try.f40.body = some (codeOf Try.f40) := by kernel_rfl
theorem ok40 : okFunc Try.f40 = true := by kernel_rfl
theorem kr40 : E0.kr 40 = [(4, false)] := by kernel_rfl
theorem kp40_3 : E0.kp 40 3 = ([(0, false), (3, false), (5, false), (6, false)], [(5, false)]) := by kernel_rfl
theorem ow40_3 : E0.own 40 3 = [(5, none, 1)] := by kernel_rfl
theorem lp40_3 : ((E0.P.funcs[40]?).bind fun fn => fn.body.bind (findLoop 3)) = some (loopIn Try.f40 3) := by kernel_rfl
/-! quadrat/overlap.Many -/
theorem fn41 : E0.P.funcs[41]? = some Try.f41 := Try.func41
theorem body41 : Try.f41.body = some (codeOf Try.f41) := by kernel_rfl
theorem ok41 : okFunc Try.f41 = true := by kernel_rfl
theorem kr41 : E0.kr 41 = [(2, false)] := by kernel_rfl
theorem kp41_5 : E0.kp 41 5 = ([(3, false), (18, false), (19, false), (20, false)], [(3, false)]) := by kernel_rfl
theorem ow41_5 : E0.own 41 5 = [] := by kernel_rfl
theorem lp41_5 : ((E0.P.funcs[41]?).bind fun fn => fn.body.bind (findLoop 5)) = some (loopIn Try.f41 5) := by kernel_rfl
/-! quadrat/overlap.ends -/
theorem fn42 : E0.P.funcs[42]? = some Try.f42 := Try.func42
theorem body42 : Try.f42.body = some (codeOf Try.f42) := by kernel_rfl
theorem ok42 : okFunc Try.f42 = true := by kernel_rfl
theorem kr42 : E0.kr 42 = [(4, false), (5, false)] := by kernel_rfl
theorem kp42_3 : E0.kp 42 3 = ([(3, false), (4, false), (5, false), (13, false), (14, false), (15, false)], [(4, false), (5, false)]) := by kernel_rfl
theorem ow42_3 : E0.own 42 3 = [] := by kernel_rfl
theorem lp42_3 : ((E0.P.funcs[42]?).bind fun fn => fn.body.bind (findLoop 3)) = some (loopIn Try.f42 3) := by kernel_rfl
/-! quadrat/overlap.isNumber -/
theorem fn43 : E0.P.funcs[43]? = some Try.f43 := Try.func43
theorem body43 : Try.f43.body = some (codeOf Try.f43) := by kernel_rfl
theorem ok43 : okFunc Try.f43 = true := by kernel_rfl
theorem kr43 : E0.kr 43 = [(2, false)] := by kernel_rfl
/-! slices.ContainsFunc[[]int,int] -/
theorem fn44 : E0.P.funcs[44]? = some Try.f44 := Try.func44
theorem body44 : Try.f44.body = some (codeOf Try.f44) := by kernel_rfl
theorem ok44 : okFunc Try.f44 = true := by kernel_rfl
theorem kr44 : E0.kr 44 = [(4, false)] := by kernel_rfl
/-! quadrat/overlap.Valid$1 -/
theorem fn45 : E0.P.funcs[45]? = some Try.f45 := Try.func45
theorem body45 : Try.f45.body = some (codeOf Try.f45) := by kernel_rfl
theorem ok45 : okFunc Try.f45 = true := by kernel_rfl
theorem kr45 : E0.kr 45 = [(2, false)] := by kernel_rfl
/-! quadrat/quadratref17.within -/
theorem fn46 : E0.P.funcs[46]? = some Try.f46 := Try.func46
theorem body46 : Try.f46.body = some (codeOf Try.f46) := by kernel_rfl
theorem ok46 : okFunc Try.f46 = true := by kernel_rfl
theorem kr46 : E0.kr 46 = [(2, false)] := by kernel_rfl
/-! quadrat/overlap.gcd -/
theorem fn47 : E0.P.funcs[47]? = some Try.f47 := Try.func47
theorem body47 : Try.f47.body = some (codeOf Try.f47) := by kernel_rfl
theorem ok47 : okFunc Try.f47 = true := by kernel_rfl
theorem kr47 : E0.kr 47 = [(4, false)] := by kernel_rfl
theorem kp47_1 : E0.kp 47 1 = ([(0, false), (1, false)], [(0, false)]) := by kernel_rfl
theorem ow47_1 : E0.own 47 1 = [] := by kernel_rfl
theorem lp47_1 : ((E0.P.funcs[47]?).bind fun fn => fn.body.bind (findLoop 1)) = some (loopIn Try.f47 1) := by kernel_rfl
/-! quadrat/quadratref17.divisor -/
theorem fn48 : E0.P.funcs[48]? = some Try.f48 := Try.func48
theorem body48 : Try.f48.body = some (codeOf Try.f48) := by kernel_rfl
theorem ok48 : okFunc Try.f48 = true := by kernel_rfl
theorem kr48 : E0.kr 48 = [(4, false)] := by kernel_rfl
theorem kp48_2 : E0.kp 48 2 = ([(0, false), (1, false)], [(0, false)]) := by kernel_rfl
theorem ow48_2 : E0.own 48 2 = [] := by kernel_rfl
theorem lp48_2 : ((E0.P.funcs[48]?).bind fun fn => fn.body.bind (findLoop 2)) = some (loopIn Try.f48 2) := by kernel_rfl
/-! quadrat/quadratref17.Place -/
theorem fn51 : E0.P.funcs[51]? = some Try.f51 := Try.func51
theorem body51 : Try.f51.body = some (codeOf Try.f51) := by kernel_rfl
theorem ok51 : okFunc Try.f51 = true := by kernel_rfl
theorem kr51 : E0.kr 51 = [(6, false)] := by kernel_rfl
theorem kp51_4 : E0.kp 51 4 = ([(4, false), (7, false), (8, false), (9, false)], [(8, false)]) := by kernel_rfl
theorem ow51_4 : E0.own 51 4 = [] := by kernel_rfl
theorem lp51_4 : ((E0.P.funcs[51]?).bind fun fn => fn.body.bind (findLoop 4)) = some (loopIn Try.f51 4) := by kernel_rfl
/-! quadrat/overlap.Many$1 -/
theorem fn52 : E0.P.funcs[52]? = some Try.f52 := Try.func52
theorem body52 : Try.f52.body = some (codeOf Try.f52) := by kernel_rfl
theorem ok52 : okFunc Try.f52 = true := by kernel_rfl
theorem kr52 : E0.kr 52 = [(2, false)] := by kernel_rfl
/-! slices.IndexFunc[[]int,int] -/
theorem fn53 : E0.P.funcs[53]? = some Try.f53 := Try.func53
theorem body53 : Try.f53.body = some (codeOf Try.f53) := by kernel_rfl
theorem ok53 : okFunc Try.f53 = true := by kernel_rfl
theorem kr53 : E0.kr 53 = [(4, false)] := by kernel_rfl
theorem kp53_2 : E0.kp 53 2 = ([(0, false), (1, false), (7, false), (8, false)], []) := by kernel_rfl
theorem ow53_2 : E0.own 53 2 = [] := by kernel_rfl
theorem lp53_2 : ((E0.P.funcs[53]?).bind fun fn => fn.body.bind (findLoop 2)) = some (loopIn Try.f53 2) := by kernel_rfl
/-! quadrat/quadratref17.Subs -/
theorem fn65 : E0.P.funcs[65]? = some Try.f65 := Try.func65
theorem body65 : Try.f65.body = some (codeOf Try.f65) := by kernel_rfl
theorem ok65 : okFunc Try.f65 = true := by kernel_rfl
theorem kr65 : E0.kr 65 = [(4, false)] := by kernel_rfl
theorem kp65_3 : E0.kp 65 3 = ([(0, false), (1, false), (5, false), (6, false)], [(5, false)]) := by kernel_rfl
theorem ow65_3 : E0.own 65 3 = [(5, none, 1)] := by kernel_rfl
theorem lp65_3 : ((E0.P.funcs[65]?).bind fun fn => fn.body.bind (findLoop 3)) = some (loopIn Try.f65 3) := by kernel_rfl
end Go.Proofs.Ytancjhajhdhfbaa.Tev
