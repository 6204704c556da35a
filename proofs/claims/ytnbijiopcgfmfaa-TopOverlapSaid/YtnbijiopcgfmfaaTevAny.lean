/- Regions whose order is drawn: every order comes to what the text's order comes to. -/
import Derived.Test.YtnbijiopcgfmfaaTevReg
namespace Go.Proofs.Ytnbijiopcgfmfaa.Tev
open Go Go.RowKit
set_option linter.unusedSectionVars false
set_option linter.unusedVariables false
set_option linter.unusedSimpArgs false

/-! What comes ahead of what. -/
/-- A set of operations that holds what comes ahead of each of its own. -/
def Closed (ops : Array Oper) (D : Nat → Prop) : Prop := ∀ i o, ops[i]? = some o → D i → ∀ e ∈ o.after.toList, Region.binds .any e = true → D e.on
def mask (acc : List Nat) (o : Oper) : Nat := o.after.toList.foldl (fun s e => if Region.binds .any e then s ||| 2 ^ e.on ||| acc.getD e.on 0 else s) 0
theorem mask_bits (acc : List Nat) (D : Nat → Prop) (hacc : ∀ i j, D i → (acc.getD i 0).testBit j = true → D j) : ∀ (es : List Edge) (s : Nat), (∀ e ∈ es, Region.binds .any e = true → D e.on) → (∀ j, s.testBit j = true → D j) →
    ∀ j, (es.foldl (fun s e => if Region.binds .any e then s ||| 2 ^ e.on ||| acc.getD e.on 0 else s) s).testBit j = true → D j
  | [], s, _, hs, j, h => hs j h
  | e :: es, s, he, hs, j, h => by
    simp only [List.foldl_cons] at h
    refine mask_bits acc D hacc es _ (fun e' h' => he e' (by simp [h'])) ?_ j h
    intro j hj
    split at hj
    · rename_i hb
      simp only [Nat.testBit_or, Bool.or_eq_true, Nat.testBit_two_pow, decide_eq_true_eq] at hj
      rcases hj with (h1 | h1) | h1
      · exact hs j h1
      · subst h1; exact he e (by simp) hb
      · exact hacc _ _ (he e (by simp) hb) h1
    · exact hs j hj
theorem ancs_eq : ∀ (l : List Oper) (acc : List Nat), ∃ r, ancs l acc = acc ++ r ∧ r.length = l.length
  | [], acc => ⟨[], by simp [ancs], rfl⟩
  | o :: l, acc => by
    obtain ⟨r, h1, h2⟩ := ancs_eq l (acc ++ [mask acc o])
    exact ⟨mask acc o :: r, by simp only [ancs]; exact h1.trans (by simp), by simp [h2]⟩
theorem ancs_at : ∀ (l : List Oper) (acc : List Nat) (k : Nat) (o : Oper), l[k]? = some o → (ancs l acc).getD (acc.length + k) 0 = mask ((ancs l acc).take (acc.length + k)) o
  | [], acc, k, o, h => by simp at h
  | x :: l, acc, 0, o, h => by
    simp at h; subst h
    obtain ⟨r, h1, _⟩ := ancs_eq l (acc ++ [mask acc x])
    have : ancs (x :: l) acc = acc ++ (mask acc x :: r) := by simp only [ancs]; exact h1.trans (by simp)
    rw [this]
    simp
  | x :: l, acc, k + 1, o, h => by
    have := ancs_at l (acc ++ [mask acc x]) k o (by simpa using h)
    simp only [List.length_append, List.length_singleton] at this
    rw [show acc.length + (k + 1) = acc.length + 1 + k by omega]
    exact this
/-- The bits of an operation are ahead of it in every closed set. -/
theorem ancs_closed {ops : Array Oper} (hdown : ∀ i o, ops[i]? = some o → ∀ e ∈ o.after.toList, Region.binds .any e = true → e.on < i) {D : Nat → Prop} (hD : Closed ops D) :
    ∀ (i : Nat) (o : Oper), ops[i]? = some o → (∀ e ∈ o.after.toList, Region.binds .any e = true → D e.on) → ∀ j, ((ancs ops.toList []).getD i 0).testBit j = true → D j := by
  intro i
  induction i using Nat.strongRecOn with
  | _ i ih =>
    intro o ho he j hj
    have h1 := ancs_at ops.toList [] i o (by simpa using ho)
    simp only [List.length_nil, Nat.zero_add] at h1
    rw [h1] at hj
    refine mask_bits _ D (fun k j hk hb => ?_) o.after.toList 0 he (fun j h => by simp at h) j hj
    have hki : ((ancs ops.toList []).take i).getD k 0 = if k < i then (ancs ops.toList []).getD k 0 else 0 := by
      simp only [List.getD_eq_getElem?_getD, List.getElem?_take]
      split <;> simp
    rw [hki] at hb
    split at hb
    · rename_i hlt
      obtain ⟨ok, hok⟩ : ∃ ok, ops[k]? = some ok := by
        have : i < ops.size := by rcases Nat.lt_or_ge i ops.size with h' | h'; exact h'; simp [Array.getElem?_eq_none h'] at ho
        exact ⟨ops[k], Array.getElem?_eq_getElem (by omega)⟩
      exact ih k hlt ok hok (fun e h h' => hD k ok hok hk e h h') j hb
    · simp at hb

section
variable {E : Env} {cl : FuncId → List T → Option R} {ops : Array Oper}
/-- What one operation does to a state. -/
inductive Eff (E : Env) (cl : FuncId → List T → Option R) (ops : Array Oper) (S : St) (o : Oper) (S1 : St) : Prop where
  /-- a bool that guards -/
  | run (Sg : St) (hg : ∀ t, get Sg.t t = get S.t t) (ho : Sg.o = S.o) (hn : Sg.n = S.n) (hw : match o.guard with | none => True | some (g, want) => ∃ d, gtmp ops g = some d ∧ get S.t d = B want) (h : opA E cl true Sg o = some S1)
  | skip (hg : ∀ t, get S1.t t = get (S.putO o.dst .und).t t) (ho : S1.o = S.o) (hn : S1.n = S.n) (hw : ∃ g want d, o.guard = some (g, want) ∧ gtmp ops g = some d ∧ (get S.t d = .und ∨ get S.t d = B (!want)))
theorem get_reput {S : St} {d : Nat} {x : T} (h : get S.t d = x) (t : Nat) : get (S.put d x).t t = get S.t t := by
  rw [get_put]; split
  · rename_i e; subst e; exact h.symm
  · rfl
theorem opG_eff {S S1 : St} {o : Oper} (h : opG E cl true ops S o some = some S1) : Eff E cl ops S o S1 := by
  unfold opG at h
  split at h
  · rename_i hg
    obtain ⟨S2, h1, h2⟩ := Option.bind_eq_some_iff.1 h
    obtain rfl := Option.some.inj h2
    exact .run S (fun _ => rfl) rfl rfl (by rw [hg]; trivial) h1
  · rename_i g want hg
    split at h
    · simp at h
    · rename_i d hd
      split at h
      · rename_i b hb
        have skp : ∀ b', get S.t d = B b' → S1 = (S.put d (B b')).putO o.dst .und → (B b' = B (!want)) → Eff E cl ops S o S1 := fun b' h1 h2 h3 => by
          subst h2
          refine .skip (fun t => ?_) (by cases o.dst <;> rfl) (by cases o.dst <;> rfl) ⟨g, want, d, hg, hd, .inr (by rw [h1, h3])⟩
          cases o.dst with
          | none => exact get_reput h1 t
          | some q => show get ((S.put d (B b')).put q .und).t t = get (S.put q .und).t t; rw [get_put (S.put d (B b')) q .und t, get_put S q .und t, get_reput h1]
        cases b <;> cases want <;> simp only [cond_true, cond_false] at h
        · obtain ⟨S2, h1, h2⟩ := Option.bind_eq_some_iff.1 h
          obtain rfl := Option.some.inj h2
          exact .run _ (get_reput hb) rfl rfl (by rw [hg]; exact ⟨d, hd, hb⟩) h1
        · exact skp false hb (Option.some.inj h).symm rfl
        · exact skp true hb (Option.some.inj h).symm rfl
        · obtain ⟨S2, h1, h2⟩ := Option.bind_eq_some_iff.1 h
          obtain rfl := Option.some.inj h2
          exact .run _ (get_reput hb) rfl rfl (by rw [hg]; exact ⟨d, hd, hb⟩) h1
      · rename_i hb
        obtain rfl := Option.some.inj h
        exact .skip (fun _ => rfl) (by cases o.dst <;> rfl) (by cases o.dst <;> rfl) ⟨g, want, d, hg, hd, .inl hb⟩
      · simp at h
theorem opG_bind (dr : Bool) (S : St) (o : Oper) (k : St → Option St) : opG E cl dr ops S o k = (opG E cl dr ops S o some).bind k := by
  unfold opG
  have bb : ∀ (x : Option St), x.bind k = (x.bind some).bind k := fun x => by cases x <;> rfl
  split
  · exact bb _
  · split
    · rfl
    · split
      · rename_i g want _ _ d _ _ b _
        cases b <;> cases want <;> simp only [cond_true, cond_false, Option.bind_some] <;> first | exact bb _ | rfl
      · rfl
      · rfl
/-- The states one after the other. -/
theorem tops_hist : ∀ (l : List Oper) (S S' : St), tops E cl true ops l S = some S' → ∃ H : Nat → St, H 0 = S ∧ H l.length = S' ∧ ∀ i o, l[i]? = some o → Eff E cl ops (H i) o (H (i + 1))
  | [], S, S', h => by
    simp only [tops, Option.some.injEq] at h; subst h
    exact ⟨fun _ => S, rfl, rfl, fun i o hi => by simp at hi⟩
  | o :: l, S, S', h => by
    simp only [tops] at h
    rw [opG_bind] at h
    obtain ⟨S1, h1, h2⟩ := Option.bind_eq_some_iff.1 h
    obtain ⟨H, hH0, hHn, hH⟩ := tops_hist l S1 S' h2
    refine ⟨fun i => match i with | 0 => S | i + 1 => H i, rfl, hHn, fun i o' hi => ?_⟩
    cases i with
    | zero => simp at hi; subst hi; simp only; rw [hH0]; exact opG_eff h1
    | succ i => exact hH i o' (by simpa using hi)
end
end Go.Proofs.Ytnbijiopcgfmfaa.Tev
