/- Functions told by what holds of them; lists of pieces that the evaluator runs. -/
import Derived.Test.YtnbijiopcgfmfaaTevHand
namespace Go.Proofs.Ytnbijiopcgfmfaa.Tev
open Go Go.RowKit Go.Proofs.Ytnbijiopcgfmfaa.Q
set_option linter.unusedSectionVars false
set_option linter.unusedVariables false
set_option linter.unusedSimpArgs false
/-- What is told of a call. -/
def CallsR (P : Program) (f : FuncId) (ts : List T) (r : R) : Prop := (∃ fn, P.funcs[f]? = some fn ∧ (fn.name == "runtime.NumGoroutine") = false ∧ fn.body.isNone = false) ∧
  ∀ (w : World) (F : Nat → Prop) (us : List Value), (∀ b, F b → b < w.heap.size) → RTs ⟨w, F, w.heap.size, fun _ => none⟩ ts us →
    Calls P f us.toArray w fun e w' => ∃ v, e = .returned v ∧ Below w.heap.size w w' ∧ ResOK F w w' r.1 r.2 v
open Classical in
/-- The answers that a relation tells, and those of an elder oracle. -/
noncomputable def relP (Sp : FuncId → List T → R → Prop) (pr : FuncId → List T → Option R) : FuncId → List T → Option R := fun f xs => if h : ∃ r, Sp f xs r then some (Classical.choose h) else pr f xs
theorem relP_ok {P : Program} {Sp : FuncId → List T → R → Prop} {pr : FuncId → List T → Option R} (h : ∀ f xs r, Sp f xs r → CallsR P f xs r) (hpr : CallOK P pr) : CallOK P (relP Sp pr) := by
  intro f ts r hr
  unfold relP at hr
  split at hr
  · rename_i hx
    obtain rfl := Option.some.inj hr
    exact h f ts _ (Classical.choose_spec hx)
  · exact hpr f ts r hr
theorem relP_of {Sp : FuncId → List T → R → Prop} {pr : FuncId → List T → Option R} {f : FuncId} {xs : List T} {r : R} (h : Sp f xs r) (hu : ∀ r', Sp f xs r' → r' = r) : relP Sp pr f xs = some r := by
  unfold relP
  have hx : ∃ r, Sp f xs r := ⟨r, h⟩
  rw [dif_pos hx, hu _ (Classical.choose_spec hx)]
theorem relP_old {Sp : FuncId → List T → R → Prop} {pr : FuncId → List T → Option R} {f : FuncId} {xs : List T} {r : R} (h : pr f xs = some r) (hu : ∀ r', ¬ Sp f xs r') : relP Sp pr f xs = some r := by
  unfold relP
  rw [dif_neg (fun ⟨r', q⟩ => hu r' q), h]
theorem relP_none {Sp : FuncId → List T → R → Prop} {pr : FuncId → List T → Option R} {f : FuncId} {xs : List T} (hu : ∀ r', ¬ Sp f xs r') : relP Sp pr f xs = pr f xs := by
  unfold relP
  rw [dif_neg (fun ⟨r', q⟩ => hu r' q)]
/-- An elder oracle, but for some functions. -/
def butP (NEW : List Nat) (pr : FuncId → List T → Option R) : FuncId → List T → Option R := fun f xs => if f ∈ NEW then none else pr f xs
theorem butP_ok {P : Program} {NEW : List Nat} {pr : FuncId → List T → Option R} (hpr : CallOK P pr) : CallOK P (butP NEW pr) := by
  intro f ts r h
  unfold butP at h
  split at h
  · simp at h
  · exact hpr f ts r h
theorem ints_inj : ∀ {l l' : List Int}, ints l = ints l' → l = l'
  | [], [], _ => rfl
  | [], _ :: _, h => by simp [ints] at h
  | _ :: _, [], h => by simp [ints] at h
  | x :: l, y :: l', h => by
    simp only [ints, List.map_cons, List.cons.injEq, C.v.injEq, Value.int.injEq, true_and] at h
    rw [h.1, ints_inj (l := l) (l' := l') h.2]
theorem SL_inj {b b' : Bool} {c c' : Option Nat} {n n' : Nat} {l l' : List C} (h : SL b c n l = SL b' c' n' l') : l = l' := by
  cases b <;> cases b' <;> simp [SL] at h
  · exact h.2.2
  · exact h.2.2
section
variable {m : Nat} {w0 : World} {F0 : Nat → Prop} {l : List Code} {S : St} {Q : Ex → St → Prop}
theorem exec_pass (E : Env) (O : Ora) (f : FuncId) : ∀ (cs : List Code) (e : Ex) (S : St), e ≠ .nor → exec E O f e (cs.map It.code) S = some (e, S)
  | [], e, S, _ => exec_nil e S
  | c :: cs, e, S, h => by
    have ih := exec_pass E O f cs e S h
    cases e with
    | nor => exact absurd rfl h
    | exit id => rw [List.map_cons, ex_pass_code]; exact ih
    | ret => rw [List.map_cons, exec_ret]; exact ih
theorem walk_list {E : Env} {O : Ora} (hm : E.P.follows .mixedOrders = true) (hcl : CallOK E.P O.call) {f : FuncId} {body : Code} (hlp : ∀ w0 F0, LoopOK E m w0 F0 body (O.loop f)) (hnd : nodupB ((loopsOf body).map firstId) = true) :
    ∀ (cs : List Code), (∀ c ∈ cs, (∀ b ∈ loopsOf c, b ∈ loopsOf body) ∧ okCode m c = true) → ∀ {S : St} {e : Ex} {S' : St}, exec E O f .nor (cs.map It.code) S = some (e, S') → (match (generalizing := false) e with | .nor => WalkL E.P m w0 F0 l S' Q | e => Q e S') → WalkL E.P m w0 F0 (cs ++ l) S Q
  | [], _, S, e, S', ht, hq => by
    rw [List.map_nil, exec_nil] at ht
    simp only [Option.some.injEq, Prod.mk.injEq] at ht
    obtain ⟨rfl, rfl⟩ := ht
    exact hq
  | c :: cs, hc, S, e, S', ht, hq => by
    obtain ⟨hs, hok⟩ := hc c (by simp)
    simp only [List.map_cons, exec] at ht
    cases h1 : te E O f c S with
    | none => rw [h1] at ht; simp at ht
    | some p =>
      obtain ⟨e1, S1⟩ := p
      rw [h1] at ht
      simp only at ht
      refine walk_te (e := e1) (S' := S1) hm hcl hlp hnd hs hok (by rw [exec_te]; exact h1) ?_
      cases e1 with
      | nor => exact walk_list hm hcl hlp hnd cs (fun c hc' => hc c (by simp [hc'])) ht hq
      | exit id =>
        rw [exec_pass E O f cs _ _ (by simp)] at ht
        simp only [Option.some.injEq, Prod.mk.injEq] at ht
        obtain ⟨rfl, rfl⟩ := ht
        exact hq
      | ret =>
        rw [exec_pass E O f cs _ _ (by simp)] at ht
        simp only [Option.some.injEq, Prod.mk.injEq] at ht
        obtain ⟨rfl, rfl⟩ := ht
        exact hq
theorem walk_mono {P : Program} {c : Code} {l l' : List Code} (h : ∀ S, WalkL P m w0 F0 l S Q → WalkL P m w0 F0 l' S Q) (hw : WalkL P m w0 F0 (c :: l) S Q) : WalkL P m w0 F0 (c :: l') S Q := by
  intro K a hi R hR
  refine hw K a hi R fun e S' K' a' hi' hq => hR e S' K' a' hi' ?_
  cases e with
  | nor => exact h S' hq
  | exit id => exact hq
  | ret => exact hq
theorem walk_assoc {P : Program} {x y : Code} : ∀ (pre : List Code) {S : St}, WalkL P m w0 F0 (pre ++ x :: y :: l) S Q → WalkL P m w0 F0 (pre ++ .seq x y :: l) S Q
  | [], S, h => walk_seq h
  | c :: pre, S, h => walk_mono (fun S hS => walk_assoc pre hS) h
theorem finR_exec {P : Program} {rs : List ResultVar} {ts : List TypeId} {x : Option (Ex × St)} {r : R} (h : finR P rs ts x = some r) : ∃ S', x = some (.ret, S') ∧ retT P rs ts S' = some r := by
  cases x with
  | none => simp [finR] at h
  | some p =>
    obtain ⟨e, S'⟩ := p
    cases e with
    | nor => simp [finR] at h
    | ret => exact ⟨S', rfl, h⟩
    | exit i => simp [finR] at h
def GoodC (m : Nat) (body c : Code) : Prop := (∀ b ∈ loopsOf c, b ∈ loopsOf body) ∧ okCode m c = true
theorem good_seq {body x y : Code} (h : GoodC m body (.seq x y)) : GoodC m body x ∧ GoodC m body y := by
  obtain ⟨h1, h2⟩ := h
  simp only [okCode, Bool.and_eq_true] at h2
  exact ⟨⟨fun b hb => h1 b (by simp [loopsOf, hb]), h2.1⟩, fun b hb => h1 b (by simp [loopsOf, hb]), h2.2⟩
def bB : Code → Code
  | .block _ b => b
  | c => c
end
end Go.Proofs.Ytnbijiopcgfmfaa.Tev
