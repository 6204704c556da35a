/- An append beside an elder row of the same list: where the appended row lies, and that the elder row reads as before. Plain lemmas over any program. -/
import Derived.Test.YticjlkommabcjaaWWords
import Derived.Maps.AppendAt
import Derived.Laws.Append
import Derived.Laws.Rows
set_option linter.unusedVariables false
namespace Go.Proofs.Yticjlkommabcjaa.Keep
open Go.RowKit Go.Proofs.YticjlkommabcjaaW.PrintWords

section
variable {P : Program} (w : World)

/-- The new value lies in the old block, or in a new one: then all that was is as it was. -/
theorem run_append_keep (base : Nat) (t ty e : TypeId) (i : TypeInfo) (z : Value) (size bytes : Nat) (ht : P.underlying t = some (.slice e)) (hi : P.info? e = some i) (hz : i.zero = some z)
    (hsize : i.size = size) (hby : i.bytes = bytes) (hzs : z.cells.size = size) (hsz : 0 < size) (v : Value) (n : Nat) (xs : List Value) (hown : w.ownsRow base e size v n xs)
    (ad : Addr) (m c : Nat) (news : List Value) (hl : news.length = m * size) (hnews : ∀ j u, news[j]? = some u → w.cell? (ad.add j) = some u) (h1 : ∀ u ∈ news, u.oneCell' = true)
    (h63 : n + m ≤ maxLen) (hbytes : (n + m) * bytes ≤ 140737488355328) (hbase : base ≤ w.heap.size) :
    ∃ v' w', (Builtin.append_ #[t, t] ty #[v, .slice (some ad) m c]).run P w = .ok v' w' ∧ w'.ownsRow base e size v' (n + m) (xs ++ news) ∧ w.grownBy w' v.ownBlock ∧
      (v'.ownBlock = v.ownBlock ∨ (v'.ownBlock = some w.heap.size ∧ ∀ k, k < w.heap.size → w'.heap[k]? = w.heap[k]?)) := by
  obtain ⟨v', w', hr, h2, h3, _, h5⟩ := run_append_own_at (P := P) w base t ty e i z size bytes ht hi hz hsize hby hzs hsz v n xs hown ad m c news hl hnews h1 h63 hbytes hbase
  refine ⟨v', w', hr, h2, h3, ?_⟩
  rcases h5 with h5 | h5
  · exact .inl h5
  · right
    refine ⟨h5, ?_⟩
    subst hsize
    subst hby
    rcases hown.2 with ⟨rfl, _⟩ | ⟨g, cap, cur, rfl, _, hg, _, _, hcs, _⟩
    · intro k hk
      exact h3.block k hk (by simp [Value.ownBlock])
    · have hgl : g < w.heap.size := (Array.getElem?_eq_some_iff.1 hg).1
      by_cases hroom : n + m ≤ cap
      · have hfit : n * i.size + news.length ≤ cur.size := by rw [hl, hcs, ← Nat.add_mul]; exact Nat.mul_le_mul_right _ hroom
        have hr2 := run_append_room (P := P) w t ty e i ht hi g n cap cur hg ad m c news hl hnews h1 hroom hfit
        rw [hr2] at hr
        injection hr with e1 e2
        subst e1
        simp [Value.ownBlock] at h5
        omega
      · have holds : ∀ j u, xs[j]? = some u → w.cell? ((⟨g, 0, none⟩ : Addr).add j) = some u := hown.cells (g := g) rfl
        have hr2 := run_append_grow (P := P) w t ty e i z ht hi hz ⟨g, 0, none⟩ n cap xs hown.1 holds ad m c news hl hnews (by omega) (by simp only [maxLen] at h63; omega) (growslice_fits (by omega) hbytes)
        rw [hr2] at hr
        injection hr with e1 e2
        subst e2
        intro k hk
        exact heap_alloc_old w.drew _ hk
end

section
variable {P : Program} (w : World)
theorem wpList_append_keep {ops : Array Oper} {rest : List Oper} {o : Oper} {a : Act} {Q : Exit → Act → World → Prop} (hgd : o.guard = none) (s x : Operand) (t : TypeId)
    (ho : o.op = .call { callee := .builtin .append, args := #[s, x], argTypes := #[t, t] })
    (base : Nat) (e : TypeId) (i : TypeInfo) (z : Value) (size bytes : Nat) (ht : P.underlying t = some (.slice e)) (hi : P.info? e = some i) (hz : i.zero = some z)
    (hsize : i.size = size) (hby : i.bytes = bytes) (hzs : z.cells.size = size) (hsz : 0 < size)
    (v : Value) (n : Nat) (xs : List Value) (hs : a.eval s = v) (hown : w.ownsRow base e size v n xs)
    (ad : Addr) (m c : Nat) (news : List Value) (hx : a.eval x = .slice (some ad) m c) (hl : news.length = m * size) (hnews : ∀ j u, news[j]? = some u → w.cell? (ad.add j) = some u) (h1 : ∀ u ∈ news, u.oneCell' = true)
    (h63 : n + m ≤ maxLen) (hbytes : (n + m) * bytes ≤ 140737488355328) (hbase : base ≤ w.heap.size)
    (h : ∀ v' w', w'.ownsRow base e size v' (n + m) (xs ++ news) → w.grownBy w' v.ownBlock → (v'.ownBlock = v.ownBlock ∨ (v'.ownBlock = some w.heap.size ∧ ∀ k, k < w.heap.size → w'.heap[k]? = w.heap[k]?)) → wpList P ops Q rest (a.put o.dst v') w') :
    wpList P ops Q (o :: rest) a w := by
  refine wpList_plain hgd fun K hK => ?_
  obtain ⟨v', w', hr, h2, h3, h5⟩ := run_append_keep (P := P) w base t o.type e i z size bytes ht hi hz hsize hby hzs hsz v n xs hown ad m c news hl hnews h1 h63 hbytes hbase
  unfold Oper.wp execOp
  simp only [ho, resolve, invoke, builtin, Sem.run_bind, Sem.run_pure, Result.andThen_ok, List.map_toArray, List.map_cons, List.map_nil, hs, hx, hr]
  exact hK _ _ (h v' w' h2 h3 h5)
end

/-- An elder row r at block g, beside the list xs that v holds: where they lie in one block, r is how xs begins. -/
structure RowSafe (W : World) (v : Value) (xs : List Int) (g : Nat) (r : List Int) : Prop where
  lt : g < W.heap.size
  at_ : ∀ (j : Nat) (u : Int), r[j]? = some u → W.cell? ⟨g, j, none⟩ = some (.int .i64 u)
  pre : v.ownBlock = some g → r <+: xs

theorem addr_add0 (g j : Nat) : (⟨g, 0, none⟩ : Addr).add j = ⟨g, j, none⟩ := by unfold Addr.add; split <;> simp_all

theorem own_cell {W : World} {base e n : Nat} {v : Value} {xs : List Int} {g : Nat} (h : W.ownsRow base e 1 v n (nums .i64 xs)) (hg : v.ownBlock = some g) (j : Nat) (u : Int) (hu : xs[j]? = some u) : W.cell? ⟨g, j, none⟩ = some (.int .i64 u) := by
  have := h.cells hg j (.int .i64 u) (by simp [nums, hu])
  rwa [addr_add0] at this

/-- The row itself, when it is taken. -/
theorem RowSafe.take {W : World} {base e n : Nat} {v : Value} {xs : List Int} {g : Nat} (h : W.ownsRow base e 1 v n (nums .i64 xs)) (hg : v.ownBlock = some g) : RowSafe W v xs g xs :=
  ⟨own_lt h g hg, own_cell h hg, fun _ => List.prefix_rfl⟩

theorem RowSafe.alloc {W : World} {v : Value} {xs : List Int} {g : Nat} {r : List Int} (h : RowSafe W v xs g r) (o : Obj) : RowSafe (W.alloc o) v xs g r :=
  ⟨by have := h.lt; simp; omega, fun j u hu => by
    have := h.at_ j u hu
    rw [← this]
    exact World.cell?_of_block (a := ⟨g, j, none⟩) (heap_alloc_old W o h.lt), h.pre⟩
theorem RowSafe.drewN {W : World} {v : Value} {xs : List Int} {g : Nat} {r : List Int} (h : RowSafe W v xs g r) (n : Nat) : RowSafe (W.drewN n) v xs g r := ⟨h.lt, h.at_, h.pre⟩

/-- Behind an append. -/
theorem RowSafe.appended {W W1 : World} {base e n1 : Nat} {v v1 : Value} {xs ys : List Int} {g : Nat} {r : List Int} (h : RowSafe W v xs g r) (ho : W1.ownsRow base e 1 v1 n1 (nums .i64 (xs ++ ys))) (hg : W.grownBy W1 v.ownBlock)
    (hat : v1.ownBlock = v.ownBlock ∨ (v1.ownBlock = some W.heap.size ∧ ∀ k, k < W.heap.size → W1.heap[k]? = W.heap[k]?)) : RowSafe W1 v1 (xs ++ ys) g r := by
  have hsz : W.heap.size ≤ W1.heap.size := hg.size
  have hlt := h.lt
  rcases hat with hs | ⟨hn, hold⟩
  · by_cases hc : v.ownBlock = some g
    · have hp : r <+: xs ++ ys := (h.pre hc).trans (List.prefix_append _ _)
      refine ⟨by omega, fun j u hu => own_cell ho (hs.trans hc) j u ?_, fun _ => hp⟩
      obtain ⟨s, hs2⟩ := hp
      rw [← hs2, List.getElem?_append_left (List.getElem?_eq_some_iff.1 hu).1]
      exact hu
    · refine ⟨by omega, fun j u hu => ?_, fun hv => absurd (hs.symm.trans hv) hc⟩
      rw [← h.at_ j u hu]
      exact World.cell?_of_block (a := ⟨g, j, none⟩) (hg.block g hlt (fun e => hc e.symm))
  · refine ⟨by omega, fun j u hu => ?_, fun hv => ?_⟩
    · rw [← h.at_ j u hu]
      exact World.cell?_of_block (a := ⟨g, j, none⟩) (hold g hlt)
    · rw [hn] at hv
      injection hv with hv
      omega
end Go.Proofs.Yticjlkommabcjaa.Keep
