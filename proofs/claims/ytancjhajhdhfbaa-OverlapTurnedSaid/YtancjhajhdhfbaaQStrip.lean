/- How a descriptor is made as flat as can be: it has the same places. -/
import Derived.Test.YtancjhajhdhfbaaQAr
namespace Go.Proofs.Ytancjhajhdhfbaa.Q
open Go
set_option linter.unusedSectionVars false
set_option linter.unusedVariables false
set_option linter.unusedSimpArgs false
/-- One dimension more. -/
def stripS (es ss : List Int) (x s : Int) : List Int × List Int :=
  if x = 1 then (es, ss)
  else if es ≠ [] ∧ s = es.getD (es.length - 1) 0 * ss.getD (es.length - 1) 0 then (es.set (es.length - 1) (es.getD (es.length - 1) 0 * x), ss)
  else (es ++ [x], ss ++ [s])
def stripG : List Int → List Int → List Int × List Int → List Int × List Int
  | x :: E, s :: S, p => stripG E S (stripS p.1 p.2 x s)
  | _, _, p => p
/-- What holds between two rounds. -/
structure SInv (p : List Int × List Int) (r : List Int) : Prop where
  len : p.2.length = p.1.length
  sm : p.1.length + r.length ≤ 3
  e1 : ∀ e ∈ p.1, 1 ≤ e
  prd : pr p.1 * pr r ≤ 4000
  near : ∀ s ∈ p.2, nearS s
theorem pr_app : ∀ (l m : List Int), pr (l ++ m) = pr l * pr m
  | [], m => by simp [pr]
  | x :: l, m => by rw [List.cons_append, pr, pr, pr_app l m, Int.mul_assoc]
theorem pr_one (x : Int) : pr [x] = x := by simp [pr]
theorem pr_mem : ∀ {l : List Int} {x : Int}, (∀ e ∈ l, 1 ≤ e) → x ∈ l → x ≤ pr l
  | [], x, _, h => by simp at h
  | y :: l, x, h1, h => by
    have p1 := pr_pos fun e he => h1 e (List.mem_cons_of_mem _ he)
    have y1 := h1 y (by simp)
    rw [pr]
    rcases List.mem_cons.1 h with rfl | h
    · have := Int.mul_le_mul_of_nonneg_left p1 (show 0 ≤ x by omega)
      omega
    · have h2 := pr_mem (fun e he => h1 e (List.mem_cons_of_mem _ he)) h
      have := Int.mul_le_mul_of_nonneg_right y1 (show 0 ≤ pr l by omega)
      omega
theorem last_of {es : List Int} (h : es ≠ []) : ∃ l e, es = l ++ [e] ∧ es.length - 1 = l.length ∧ es.getD (es.length - 1) 0 = e ∧ ∀ v, es.set (es.length - 1) v = l ++ [v] := by
  obtain ⟨l, e, rfl⟩ : ∃ l e, es = l ++ [e] := ⟨es.dropLast, es.getLast h, (List.dropLast_concat_getLast h).symm⟩
  refine ⟨l, e, rfl, by simp, by simp, fun v => by simp⟩
theorem SInv.step {p : List Int × List Int} {x s : Int} {r : List Int} (h : SInv p (x :: r)) (hx : 1 ≤ x) (hr : ∀ e ∈ r, 1 ≤ e) (hs : nearS s) : SInv (stripS p.1 p.2 x s) r := by
  obtain ⟨es, ss⟩ := p
  have h1 := h.len
  have h2 := h.sm
  have h3 := h.e1
  have h4 := h.prd
  have h5 := h.near
  simp only [List.length_cons] at h1 h2 h3 h4 h5
  rw [pr] at h4
  unfold stripS
  by_cases hx1 : x = 1
  · subst hx1
    rw [if_pos rfl]
    exact ⟨h1, by simp only; omega, h3, by simpa using h4, h5⟩
  · rw [if_neg hx1]
    by_cases hc : es ≠ [] ∧ s = es.getD (es.length - 1) 0 * ss.getD (es.length - 1) 0
    · rw [if_pos hc]
      obtain ⟨l, e, rfl, k1, k2, k3⟩ := last_of hc.1
      simp only [k2, k3]
      have he := h3 e (by simp)
      rw [pr_app, pr_one] at h4
      refine ⟨by simpa using h1, by simp at h2 ⊢; omega, fun z hz => ?_, ?_, h5⟩
      · rcases List.mem_append.1 hz with hz | hz
        · exact h3 z (by simp [hz])
        · simp only [List.mem_cons, List.not_mem_nil, or_false] at hz
          subst hz
          have := Int.mul_le_mul_of_nonneg_left hx (show 0 ≤ e by omega)
          omega
      · rw [pr_app, pr_one, ← Int.mul_assoc, Int.mul_assoc]
        exact h4
    · rw [if_neg hc]
      refine ⟨by simp [h1], by simp; omega, fun z hz => ?_, ?_, fun z hz => ?_⟩
      · rcases List.mem_append.1 hz with hz | hz
        · exact h3 z hz
        · simp only [List.mem_cons, List.not_mem_nil, or_false] at hz
          subst hz; exact hx
      · rw [pr_app, pr_one, Int.mul_assoc]; exact h4
      · rcases List.mem_append.1 hz with hz | hz
        · exact h5 z hz
        · simp only [List.mem_cons, List.not_mem_nil, or_false] at hz
          subst hz; exact hs
/-- What bounds the two products. -/
theorem SInv.bd {es ss : List Int} {x : Int} {r : List Int} (h : SInv (es, ss) (x :: r)) (hx : 1 ≤ x) (hr : ∀ e ∈ r, 1 ≤ e) (hne : es ≠ []) :
    (1 ≤ es.getD (es.length - 1) 0 ∧ es.getD (es.length - 1) 0 ≤ 4000) ∧ (1 ≤ es.getD (es.length - 1) 0 * x ∧ es.getD (es.length - 1) 0 * x ≤ 4000) ∧
      -9000000000000 ≤ es.getD (es.length - 1) 0 * ss.getD (es.length - 1) 0 ∧ es.getD (es.length - 1) 0 * ss.getD (es.length - 1) 0 ≤ 9000000000000 := by
  have h1 := h.len
  have h3 := h.e1
  have h4 := h.prd
  have h5 := h.near
  simp only at h1 h3 h4 h5
  obtain ⟨l, e, rfl, k1, k2, k3⟩ := last_of hne
  rw [k2, k1]
  have he := h3 e (by simp)
  have pl := pr_pos fun z hz => h3 z (List.mem_append_left _ hz)
  have pr' := pr_pos hr
  rw [pr_app, pr_one, pr] at h4
  have a1 : 1 ≤ e * x := by
    have := Int.mul_le_mul_of_nonneg_left hx (show 0 ≤ e by omega)
    omega
  have a2 : e * x ≤ 4000 := by
    have b1 : e * x ≤ pr l * (e * x) := by
      have := Int.mul_le_mul_of_nonneg_right pl (show 0 ≤ e * x by omega)
      omega
    have b2 : pr l * (e * x) ≤ pr l * (e * x) * pr r := by
      have := Int.mul_le_mul_of_nonneg_left pr' (show 0 ≤ pr l * (e * x) by omega)
      omega
    have b3 : pr l * (e * x) * pr r = pr l * e * (x * pr r) := by rw [Int.mul_assoc, Int.mul_assoc, Int.mul_assoc]
    omega
  have a3 : e ≤ 4000 := by
    have := Int.mul_le_mul_of_nonneg_left hx (show 0 ≤ e by omega)
    omega
  have a4 : nearS (ss.getD l.length 0) := by
    have hl : l.length < ss.length := by rw [h1]; simp
    rw [List.getD_eq_getElem?_getD, List.getElem?_eq_getElem hl]
    exact h5 _ (List.getElem_mem hl)
  have := mul_bd (a := e) (b := ss.getD l.length 0) (A := 4000) (B := 2147483648) (by omega) a3 a4.1 a4.2
  exact ⟨⟨he, a3⟩, ⟨a1, a2⟩, by omega, by omega⟩

/-! The places without wraps. -/
def dimP (out : List Int) (s : Int) (n : Nat) : List Int := (List.range n).flatMap fun t : Nat => out.map fun x => x + (t : Int) * s
def plP : List Int → List Int → List Int → List Int
  | n :: E, s :: S, out => plP E S (dimP out s n.toNat)
  | _, _, out => out
theorem mem_dimP {out : List Int} {s y : Int} {d : Nat} : y ∈ dimP out s d ↔ ∃ x ∈ out, ∃ t : Nat, t < d ∧ y = x + (t : Int) * s := by
  unfold dimP
  simp only [List.mem_flatMap, List.mem_range, List.mem_map]
  constructor
  · rintro ⟨t, ht, x, hx, rfl⟩; exact ⟨x, hx, t, ht, rfl⟩
  · rintro ⟨x, hx, t, ht, rfl⟩; exact ⟨t, ht, x, hx, rfl⟩
theorem plcW_plP : ∀ (E S out : List Int) (d : Nat), d ≤ 3 → E.length ≤ d → S.length = E.length → (∀ e ∈ E, 1 ≤ e ∧ e ≤ 4000) → (∀ s ∈ S, nearS s) →
    (∀ x ∈ out, -100000000000000 + 10000000000000 * (d : Int) ≤ x ∧ x ≤ 100000000000000 - 10000000000000 * (d : Int)) → plcW E S out = plP E S out
  | [], S, out, d, _, _, _, _, _, _ => by simp [plcW, plP]
  | _ :: _, [], _, _, _, _, h, _, _, _ => by simp at h
  | n :: E, s :: S, out, 0, _, hl, _, _, _, _ => by simp at hl
  | n :: E, s :: S, out, d + 1, hd, hl, hS, hE, hN, ho => by
    have hn := hE n (by simp)
    have hs := hN s (by simp)
    have hy : ∀ x ∈ out, ∀ t : Nat, t < n.toNat → IntKind.i64.wrap (x + IntKind.i64.wrap ((t : Int) * s)) = x + t * s := by
      intro x hx t ht
      have h1 := ho x hx
      have h2 := way_t hs (t := t) (n := n) (by omega) (by omega) hn.2
      rw [w64 (x := (t : Int) * s) (by omega) (by omega), w64 (by omega) (by omega)]
    have e : dimW out s n.toNat 0 = dimP out s n.toNat := by
      unfold dimW dimP rowW
      rw [List.flatMap_def, List.flatMap_def]
      congr 1
      refine List.map_congr_left fun t ht => List.map_congr_left fun x hx => ?_
      rw [Int.zero_add]
      exact hy x hx t (List.mem_range.1 ht)
    rw [plcW, plP, e]
    refine plcW_plP E S _ d (by omega) (by simpa using hl) (by simpa using hS) (fun e he => hE e (by simp [he])) (fun e he => hN e (by simp [he])) fun y hm => ?_
    obtain ⟨x, hx, t, ht, rfl⟩ := mem_dimP.1 hm
    have h1 := ho x hx
    have h2 := way_t hs (t := t) (n := n) (by omega) (by omega) hn.2
    omega
theorem plP_snoc (x s : Int) : ∀ (es ss out : List Int), ss.length = es.length → plP (es ++ [x]) (ss ++ [s]) out = dimP (plP es ss out) s x.toNat
  | [], [], out, _ => by simp [plP]
  | [], _ :: _, _, h => by simp at h
  | _ :: _, [], _, h => by simp at h
  | e :: es, t :: ss, out, h => by
    rw [List.cons_append, List.cons_append, plP, plP]
    exact plP_snoc x s es ss _ (by simpa using h)
theorem dimP_one (out : List Int) (s : Int) : dimP out s 1 = out := by simp [dimP]
theorem dimP_succ (out : List Int) (s : Int) (n : Nat) : dimP out s (n + 1) = dimP out s n ++ out.map fun x => x + (n : Int) * s := by
  unfold dimP
  rw [List.range_succ, List.flatMap_append]
  simp
theorem dimP_add (out : List Int) (s : Int) (a : Nat) : ∀ b : Nat, dimP out s (a + b) = dimP out s a ++ (dimP out s b).map fun x => x + (a : Int) * s
  | 0 => by simp [dimP]
  | b + 1 => by
    rw [← Nat.add_assoc, dimP_succ, dimP_add out s a b, dimP_succ, List.map_append, List.append_assoc]
    congr 2
    rw [List.map_map]
    refine List.map_congr_left fun x _ => ?_
    show x + ((a + b : Nat) : Int) * s = x + (b : Int) * s + (a : Int) * s
    rw [Int.natCast_add, Int.add_mul]
    omega
theorem dimP_mul (out : List Int) (t : Int) (e : Nat) : ∀ x : Nat, dimP (dimP out t e) ((e : Int) * t) x = dimP out t (x * e)
  | 0 => by simp [dimP]
  | x + 1 => by
    rw [dimP_succ, dimP_mul out t e x, Nat.succ_mul, dimP_add]
    congr 1
    refine List.map_congr_left fun y _ => ?_
    rw [Int.natCast_mul, Int.mul_assoc]
theorem stripS_pl {es ss : List Int} {x s : Int} {r : List Int} (h : SInv (es, ss) (x :: r)) (hx : 1 ≤ x) (out : List Int) : plP (stripS es ss x s).1 (stripS es ss x s).2 out = dimP (plP es ss out) s x.toNat := by
  have h1 := h.len
  have h3 := h.e1
  simp only at h1 h3
  unfold stripS
  by_cases hx1 : x = 1
  · subst hx1
    rw [if_pos rfl]
    exact (dimP_one _ _).symm
  · rw [if_neg hx1]
    by_cases hc : es ≠ [] ∧ s = es.getD (es.length - 1) 0 * ss.getD (es.length - 1) 0
    · rw [if_pos hc]
      obtain ⟨l, e, rfl, k1, k2, k3⟩ := last_of hc.1
      have hss : ss ≠ [] := by
        rintro rfl
        simp at h1
      obtain ⟨m, u, rfl, m1, m2, m3⟩ := last_of hss
      have hlm : m.length = l.length := by simpa using h1
      have hg : (m ++ [u]).getD ((l ++ [e]).length - 1) 0 = u := by rw [k1, ← hlm, ← m1]; exact m2
      have hc2 := hc.2
      rw [k2, hg] at hc2
      subst hc2
      have he := h3 e (by simp)
      simp only [k2, k3]
      rw [plP_snoc _ _ _ _ _ hlm, plP_snoc _ _ _ _ _ hlm]
      have e1 : e = (e.toNat : Int) := by omega
      have e2 : (e * x).toNat = x.toNat * e.toNat := by
        rw [Int.mul_comm, Int.toNat_mul (by omega) (by omega)]
      rw [e2, ← dimP_mul, ← e1]
    · rw [if_neg hc]
      exact plP_snoc _ _ _ _ _ h1
theorem strip_keep : ∀ (r t es ss : List Int), t.length = r.length → (∀ e ∈ r, 1 ≤ e) → (∀ s ∈ t, nearS s) → SInv (es, ss) r →
    SInv (stripG r t (es, ss)) [] ∧ ∀ out, plP (stripG r t (es, ss)).1 (stripG r t (es, ss)).2 out = plP r t (plP es ss out)
  | [], t, es, ss, _, _, _, h => ⟨h, fun out => by simp [stripG, plP]⟩
  | x :: r, [], es, ss, hl, _, _, _ => by simp at hl
  | x :: r, s :: t, es, ss, hl, hr, ht, h => by
    have hx := hr x (by simp)
    have hr' : ∀ e ∈ r, 1 ≤ e := fun e he => hr e (by simp [he])
    have hst := h.step hx hr' (ht s (by simp))
    obtain ⟨k1, k2⟩ := strip_keep r t (stripS es ss x s).1 (stripS es ss x s).2 (by simpa using hl) hr' (fun e he => ht e (by simp [he])) hst
    refine ⟨k1, fun out => ?_⟩
    show plP (stripG r t (stripS es ss x s)).1 (stripG r t (stripS es ss x s)).2 out = _
    rw [show stripS es ss x s = ((stripS es ss x s).1, (stripS es ss x s).2) from rfl, k2 out, plP, stripS_pl h hx]
theorem SInv.start {E : List Int} (h3 : E.length ≤ 3) (hp : pr E ≤ 4000) : SInv ([], []) E := ⟨rfl, by simpa using h3, fun e he => by simp at he, by simpa [pr] using hp, fun s hs => by simp at hs⟩
theorem plcW_base {b : Int} {E S : List Int} (hE : ∀ e ∈ E, 1 ≤ e ∧ e ≤ 4000) (h3 : E.length ≤ 3) (hS : S.length = E.length) (hN : ∀ s ∈ S, nearS s) (h0 : 0 ≤ b) (h1 : b ≤ 2147483648) : plcW E S [b] = plP E S [b] :=
  plcW_plP E S [b] 3 (by omega) h3 hS hE hN fun x hx => by
    simp only [List.mem_cons, List.not_mem_nil, or_false] at hx
    subst hx
    omega
theorem strip_ok {b : Int} {E S : List Int} (h : okD b E S) (hp : pr E ≠ 0) : okD b (stripG E S ([], [])).1 (stripG E S ([], [])).2 ∧ placesQ b (stripG E S ([], [])).1 (stripG E S ([], [])).2 = placesQ b E S := by
  have h1 := exts_pos h.1 hp
  obtain ⟨k1, k2⟩ := strip_keep E S [] [] h.2.2.1 h1 h.2.2.2.2.1 (SInv.start h.1.1 h.2.1)
  generalize stripG E S ([], []) = p at k1 k2 ⊢
  have hb := (h.2.2.2.2.2.resolve_left hp).1
  have h0 := h.2.2.2.1
  have p4 : pr p.1 ≤ 4000 := by have := k1.prd; simpa [pr] using this
  have e4 : ∀ e ∈ p.1, 1 ≤ e ∧ e ≤ 4000 := fun e he => ⟨k1.e1 e he, by have := pr_mem k1.e1 he; omega⟩
  have hx : exts p.1 := ⟨by have := k1.sm; simpa using this, fun e he => by have := e4 e he; omega⟩
  have hp' : pr p.1 ≠ 0 := by have := pr_pos k1.e1; omega
  have hpl : plcR b p.1 p.2 = plcR b E S := by
    unfold plcR
    rw [if_neg hp, if_neg hp', plcW_base e4 hx.1 k1.len k1.near h0 hb, plcW_base (fun e he => ⟨h1 e he, (h.1.2 e he).2⟩) h.1.1 h.2.2.1 h.2.2.2.2.1 h0 hb, k2]
    rfl
  have hall := (all_plcR h.1 h.2.2.1 h.2.2.2.2.1 h0 (by omega)).2 h.2.2.2.2.2
  rw [← hpl] at hall
  have hd : okD b p.1 p.2 := ⟨hx, p4, k1.len, h0, k1.near, (all_plcR hx k1.len k1.near h0 (by omega)).1 hall⟩
  exact ⟨hd, by unfold placesQ; rw [if_pos h, if_pos hd, hpl]⟩
def stE (base : Int) (E S : List Int) : List Int := if okD base E S then (if pr E = 0 then E else (stripG E S ([], [])).1) else []
def stT (base : Int) (E S : List Int) : List Int := if okD base E S then (if pr E = 0 then S else (stripG E S ([], [])).2) else []
def stB (base : Int) (E S : List Int) : Int := if okD base E S then base else 0
theorem strip_all {b : Int} {E S : List Int} (h : okD b E S) : okD (stB b E S) (stE b E S) (stT b E S) ∧ placesQ (stB b E S) (stE b E S) (stT b E S) = placesQ b E S := by
  unfold stB stE stT
  rw [if_pos h, if_pos h, if_pos h]
  by_cases hp : pr E = 0
  · rw [if_pos hp, if_pos hp]; exact ⟨h, rfl⟩
  · rw [if_neg hp, if_neg hp]; exact strip_ok h hp
theorem st_len {b : Int} {E S : List Int} : (stE b E S).length ≤ 3 ∧ (stT b E S).length ≤ 3 := by
  by_cases h : okD b E S
  · obtain ⟨h1, _⟩ := strip_all h
    exact ⟨h1.1.1, by rw [h1.2.2.1]; exact h1.1.1⟩
  · unfold stE stT; rw [if_neg h, if_neg h]; simp
end Go.Proofs.Ytancjhajhdhfbaa.Q
