/- Arguments as typed trees; how a law's row comes out of what the evaluator returns. -/
import Derived.Test.YtnbijiopcgfmfaaTevOpen
import Derived.Test.YtnbijiopcgfmfaaTevSl
set_option linter.unusedVariables false
namespace Go.Proofs.Ytnbijiopcgfmfaa.Tev
open Go Go.RowKit Go.ChangeShapes Go.WideShapes
set_option linter.unusedSectionVars false
set_option linter.unusedSimpArgs false
variable {P : Program} {w : World}
/-- Whatever reads as a value of type t is the cells of something that J tells of. -/
def OpnT {α : Type} (P : Program) (w : World) (t : TypeId) (enc : α → List C) (J : α → Prop) : Prop := Opn P w t fun l => ∃ a, l = enc a ∧ J a
def OpnG {α : Type} (P : Program) (w : World) (fs : List Field) (o sz : Nat) (enc : α → List C) (J : α → Prop) : Prop := OpnF P w fs o sz fun l => ∃ a, l = enc a ∧ J a
theorem opt_int {t : TypeId} (ht : P.underlying t = some (.int .i64)) : OpnT P w t (fun n : Int => [CI n]) (fun n => -9223372036854775808 ≤ n ∧ n ≤ 9223372036854775807) :=
  opn_mono (opn_int ht) fun l ⟨n, h1, h2⟩ => ⟨n, h1, by
    simp only [Lit.wf, Bool.and_eq_true, decide_eq_true_eq] at h2
    have e1 : IntKind.i64.min = -9223372036854775808 := by decide
    have e2 : IntKind.i64.max = 9223372036854775807 := by decide
    rw [e1, e2] at h2; exact h2⟩
theorem opt_bool {t : TypeId} (ht : P.underlying t = some .bool) : OpnT P w t (fun b : Bool => [.v (.bool b)]) (fun _ => True) := opn_mono (opn_bool ht) fun l ⟨b, h⟩ => ⟨b, h, trivial⟩
theorem opt_string {t : TypeId} (ht : P.underlying t = some .string) : OpnT P w t (fun s : ByteArray => [.v (.string s)]) (fun s => s.size ≤ 140737488351232) := opn_mono (opn_string ht) fun l ⟨s, h1, h2⟩ => ⟨s, h1, h2⟩
theorem typed {α : Type} {enc : α → List C} {J : α → Prop} : ∀ (ls : List (List C)), (∀ x ∈ ls, ∃ a, x = enc a ∧ J a) → ∃ as : List α, as.length = ls.length ∧ ls.flatten = as.flatMap enc ∧ ∀ a ∈ as, J a
  | [], _ => ⟨[], rfl, rfl, fun a h => by simp at h⟩
  | x :: ls, h => by
    obtain ⟨a, h1, h2⟩ := h x (by simp)
    obtain ⟨as, h3, h4, h5⟩ := typed ls fun y hy => h y (by simp [hy])
    refine ⟨a :: as, by simp [h3], by rw [List.flatten_cons, List.flatMap_cons, h4, h1], fun b hb => ?_⟩
    rcases List.mem_cons.1 hb with rfl | hb
    · exact h2
    · exact h5 b hb
theorem opt_slice {α : Type} {enc : α → List C} {J : α → Prop} {t e : TypeId} (sz B : Nat) (ht : P.underlying t = some (.slice e)) (he : OpnT P w e enc J) (hc : P.cellsOf e = sz) (hs : 0 < sz) (hB : P.bytesOf e = B) :
    OpnT P w t (fun as : List α => [.s none as.length (as.flatMap enc)]) (fun as => as.length * B ≤ 140737488351232 ∧ ∀ a ∈ as, J a) :=
  opn_mono (opn_slice ht he hc hs hB) fun l ⟨ls, h1, h2, h3⟩ => by
    obtain ⟨as, q1, q2, q3⟩ := typed ls h3
    exact ⟨as, by rw [h1, ← q1, q2], by rw [q1]; exact h2, q3⟩
theorem opg_one {α : Type} {enc : α → List C} {J : α → Prop} {f : Field} {o sz : Nat} (h : OpnT P w f.type enc J) (ho : f.offset = o) (hc : P.cellsOf f.type = sz) : OpnG P w [f] o sz enc J := opnF_one h ho hc
theorem opg_cons {α β : Type} {enc : α → List C} {J : α → Prop} {enc2 : β → List C} {J2 : β → Prop} {f : Field} {fs : List Field} {o sz sz2 : Nat} (h : OpnT P w f.type enc J) (ho : f.offset = o) (hc : P.cellsOf f.type = sz) (h2 : OpnG P w fs (o + sz) sz2 enc2 J2) :
    OpnG P w (f :: fs) o (sz + sz2) (fun x : α × β => enc x.1 ++ enc2 x.2) (fun x => J x.1 ∧ J2 x.2) := by
  intro H e fuel cs xs hl hx hz
  obtain ⟨l, r, l1, l2, rfl, ⟨a, h1, h3⟩, b, h4, h5⟩ := opnF_cons h ho hc h2 H e fuel cs xs hl hx hz
  exact ⟨_, r, (a, b), by rw [h1, h4], h3, h5⟩
theorem opt_struct {α : Type} {enc : α → List C} {J : α → Prop} {t : TypeId} {fs : Array Field} (sz : Nat) (ht : P.underlying t = some (.struct fs)) (h : OpnG P w fs.toList 0 sz enc J) (hc : P.cellsOf t = sz) : OpnT P w t enc J := opn_struct ht h hc
theorem argt_cells {α : Type} {encc : α → List C} {J : α → Prop} {H : Type} {enc : TypeId × Value → H} {t : TypeId} (h : OpnT P w t encc J) {v : Value} {x : DataW H} {ps : List MemPlace} {ts : List TypeId} {ds : List (DataW H)} {j : Nat}
    (hr : DataW.Trod enc P w 0 (fun _ => true) true t v x ps) (hsz : (DataW.weightsEach P ts ds).all (· ≤ reachBytes) = true) (ht : ts[j]? = some t) (hd : ds[j]? = some x) : ∃ a : α, RTs (Old w) ((encc a).map T.c) v.cells.toList ∧ J a := by
  obtain ⟨l, h1, a, h2, h3⟩ := arg_cells h hr hsz ht hd
  exact ⟨a, by rw [← h2]; exact h1, h3⟩
theorem flat_ints (xs : List Int) : (xs.flatMap fun n => [CI n]) = ints xs := by
  induction xs with
  | nil => rfl
  | cons x xs ih => rw [List.flatMap_cons, ih]; rfl
theorem rts_cons {K : Ctx} {x : T} {l : List T} {u : Value} {us : List Value} (h1 : RT K x u) (h2 : RTs K l us) : RTs K (x :: l) (u :: us) := by simp only [RTs]; exact ⟨u, us, rfl, h1, h2⟩
theorem rts_nil {K : Ctx} : RTs K [] [] := by simp only [RTs]
/-- What a law that returns true comes to. -/
theorem row_calls {P : Program} {cl : FuncId → List T → Option R} (hcl : CallOK P cl) {f : FuncId} {ts : List T} {us : List Value} {w : World} (h : cl f ts = some (B true, [])) (hr : RTs (Old w) ts us) :
    Calls P f us.toArray w fun e w' => e = .returned (.bool true) ∧ Below w.heap.size w w' := by
  refine ((hcl f ts _ h).2 w (fun b => b < w.heap.size) us (fun _ h => h) hr).mono fun e w' ⟨v, h1, h2, F', pl, _, _, h3, _⟩ => ?_
  have q := h3 0 0 (fun _ => none) (fun k hk => by simp at hk)
  simp only [lift, liftA, liftC, RT, RC] at q
  rw [h1, q.1]
  exact ⟨rfl, h2⟩
end Go.Proofs.Ytnbijiopcgfmfaa.Tev
