/- Leave; the document's. -/
import Derived.Test.YtochkebkfoophaaC24f
import Derived.Test.YtochkebkfoophaaQWh
namespace Go.Proofs.Ytochkebkfoophaa.Tev
open Go Go.RowKit Go.Proofs Go.Proofs.Ytochkebkfoophaa.Q
set_option linter.unusedSectionVars false
set_option maxRecDepth 100000
set_option maxHeartbeats 0
set_option linter.unusedSimpArgs false
set_option linter.unusedVariables false
def segQ (m : List Int) : Nat → Nat → List Int
  | _, 0 => []
  | a, d + 1 => m.getD a 0 :: segQ m (a + 1) d
theorem segQ_len (m : List Int) : ∀ (a d : Nat), (segQ m a d).length = d
  | _, 0 => rfl
  | a, d + 1 => by rw [segQ, List.length_cons, segQ_len m (a + 1) d]
theorem row_seg (m : List Int) : ∀ (a d : Nat), a + d ≤ m.length → rowAt (ints m) a d = ints (segQ m a d)
  | a, 0, _ => by simp [rowAt, segQ, ints]
  | a, d + 1, h => by
    have ih := row_seg m (a + 1) d (by omega)
    unfold rowAt ints at ih ⊢
    rw [← List.map_drop, List.drop_eq_getElem_cons (show a < m.length by omega), List.map_cons, List.take_succ_cons, segQ, List.map_cons, List.map_drop, ih]
    congr 3
    simp [show a < m.length by omega]
def chP (p : PassQ) : Bool := p.2.2 && decide (p.2.1 ≠ (ByteArray.mk #[118, 97, 108, 117, 101]))
def plP (p : PassQ) : List Int := placesQ p.1.1 p.1.2.1 p.1.2.2
/-- What is left of a memory. -/
def levQ (m : List Int) : List PassQ → List Int → Nat → List Int
  | [], out, _ => out
  | p :: r, out, t => if packedQ p = true then levQ m r (if chP p = true then putL (plP p) (segQ m t (plP p).length) out else out) (t + (plP p).length) else levQ m r out t
theorem levQ_len (m : List Int) : ∀ (r : List PassQ) (out : List Int) (t : Nat), (levQ m r out t).length = out.length
  | [], _, _ => rfl
  | p :: r, out, t => by
    rw [levQ]
    split
    · rw [levQ_len m r]; split
      · rw [putL_len]
      · rfl
    · exact levQ_len m r _ _
def roomN : List PassQ → Nat
  | [] => 0
  | p :: r => (if packedQ p = true then (plP p).length else 0) + roomN r
theorem sizeD_pl {p : PassQ} : sizeD p.1.1 p.1.2.1 p.1.2.2 = ((plP p).length : Int) := by
  unfold sizeD plP placesQ
  by_cases h : okD p.1.1 p.1.2.1 p.1.2.2
  · rw [if_pos h, if_pos h, plcR_length h.2.2.1 h.1]
  · rw [if_neg h, if_neg h]; rfl
theorem roomN_eq : ∀ (l : List PassQ), roomQ l = (roomN l : Int)
  | [] => rfl
  | p :: r => by
    rw [roomQ, roomN, roomN_eq r, szP, sizeD_pl]
    split <;> simp
section
variable (q b : Bool) (c cm : Option Nat) (m : List Int) (l : List PassQ)
theorem l_Leave8 (n : Nat) (hn : n ≤ 4000) (hl : l.length ≤ 8) (hb : ∀ p ∈ l, bdP p) : ∀ (r : List PassQ) (i : Nat) (a : Int), l.drop i = r → 0 ≤ a → a ≤ 4000 + 4000 * (i : Int) →
    lp E0 pr0 23 8 ⟨[(0, SL b cm m.length (ints m)), (1, PsT q c l), (2, I n), (9, I a), (44, PsT q c l), (45, I l.length), (46, I i)], [], 0⟩ =
      some (.exit 0, ⟨[(0, SL b cm m.length (ints m)), (1, PsT q c l), (2, I n), (9, I (a + roomQ r))], [], 0⟩) := by
  intro r
  induction r with
  | nil =>
    intro i a h1 h2 h3
    have h5 := drop_nil h1
    have h6 : ¬ (i : Int) < l.length := by omega
    rw [lp_eq lp23_8]
    simp (config := { maxSteps := 1000000 }) (disch := omega) only [push_cast, ↓reduceIte, Nat.reduceEqDiff, Nat.reduceAdd, Nat.reduceLT, Nat.reduceLeDiff, Nat.reduceBEq, Nat.reduceMul, Nat.reduceSub, Int.reduceToNat, Int.reduceEq, Int.reduceLT, Int.reduceLE, Int.reduceNeg, Int.reduceAdd, Int.reduceSub, Int.reduceMul, Try.f23, kr23, kp23_22, kp23_8, ow23_22, ow23_8, ty3, ty4, ty9, ty22, ty23, ty27, ty34, ty36, tb4, h6, roomQ, Int.add_zero]
  | cons p r ih =>
    intro i a h1 h2 h3
    obtain ⟨g1, g2, g3⟩ := drop_cons h1
    have g8 : (i : Int) < l.length := by omega
    have hp := hb p (List.mem_of_getElem? g2)
    have hv := c_Size p.1.1 true true none none p.1.2.1 p.1.2.2 hp.2.1 hp.2.2
    have hk := c_packed true true none none p hp
    have e0 := sizeD_bd p.1.1 p.1.2.1 p.1.2.2
    rw [lp_eq lp23_8]
    unfold roomQ szP
    by_cases hx : packedQ p = true
    · have ih' := ih (i + 1) (a + sizeD p.1.1 p.1.2.1 p.1.2.2) g3 (by omega) (by push_cast; omega)
      simp only [cast1, List.length_append, List.length_cons, List.length_nil, Nat.zero_add, Nat.add_zero, Int.natCast_zero, Int.natCast_add, Int.zero_add, ints_1, ints_0, ] at ih'
      simp (config := { maxSteps := 1000000 }) (disch := omega) only [push_cast, ↓reduceIte, Nat.reduceEqDiff, Nat.reduceAdd, Nat.reduceLT, Nat.reduceLeDiff, Nat.reduceBEq, Nat.reduceMul, Nat.reduceSub, Int.reduceToNat, Int.reduceEq, Int.reduceLT, Int.reduceLE, Int.reduceNeg, Int.reduceAdd, Int.reduceSub, Int.reduceMul, Try.f23, kr23, kp23_22, kp23_8, ow23_22, ow23_8, ty3, ty4, ty9, ty22, ty23, ty27, ty34, ty36, tb4, g1, g8, ps0 g2, ps1 g2, ps2 g2, ps3 g2, ps4 g2, hv, hk, hx, ih', Int.add_assoc]
    · have ih' := ih (i + 1) a g3 (by omega) (by push_cast; omega)
      simp only [cast1, List.length_append, List.length_cons, List.length_nil, Nat.zero_add, Nat.add_zero, Int.natCast_zero, Int.natCast_add, Int.zero_add, ints_1, ints_0, ] at ih'
      simp (config := { maxSteps := 1000000 }) (disch := omega) only [push_cast, ↓reduceIte, Nat.reduceEqDiff, Nat.reduceAdd, Nat.reduceLT, Nat.reduceLeDiff, Nat.reduceBEq, Nat.reduceMul, Nat.reduceSub, Int.reduceToNat, Int.reduceEq, Int.reduceLT, Int.reduceLE, Int.reduceNeg, Int.reduceAdd, Int.reduceSub, Int.reduceMul, Try.f23, kr23, kp23_22, kp23_8, ow23_22, ow23_8, ty3, ty4, ty9, ty22, ty23, ty27, ty34, ty36, tb4, g1, g8, ps0 g2, ps1 g2, ps2 g2, ps3 g2, ps4 g2, hv, hk, hx, ih', Int.zero_add]
theorem l_Leave22 (hm : m.length ≤ 16000) (hl : l.length ≤ 8) (hb : ∀ p ∈ l, bdP p) (ho : ∀ p ∈ l, okPs p) (n : Nat) (hn : n ≤ 4000) (he : ∀ p ∈ l, errI n p.1.1 p.1.2.1 p.1.2.2 = 0) : ∀ (r : List PassQ) (i : Nat) (out : List Int) (t : Nat), l.drop i = r → out.length = n → t + roomN r ≤ m.length →
    lp E0 pr0 23 22 ⟨[(0, SL b cm m.length (ints m)), (15, .sl 0 0 out.length 1 none), (16, I t), (79, PsT q c l), (80, I l.length), (81, I i)], [(0, .arr (ints out) 0 1)], 1⟩ =
      some (.exit 2, ⟨[(15, .sl 0 0 (levQ m r out t).length 1 none)], [(0, .arr (ints (levQ m r out t)) 0 1)], 1⟩) := by
  intro r
  induction r with
  | nil =>
    intro i out t h1 h2 h3
    have h5 := drop_nil h1
    have h6 : ¬ (i : Int) < l.length := by omega
    rw [lp_eq lp23_22]
    simp (config := { maxSteps := 1000000 }) (disch := omega) only [push_cast, ↓reduceIte, Nat.reduceEqDiff, Nat.reduceAdd, Nat.reduceLT, Nat.reduceLeDiff, Nat.reduceBEq, Nat.reduceMul, Nat.reduceSub, Int.reduceToNat, Int.reduceEq, Int.reduceLT, Int.reduceLE, Int.reduceNeg, Int.reduceAdd, Int.reduceSub, Int.reduceMul, Try.f23, kr23, kp23_22, kp23_8, ow23_22, ow23_8, ty3, ty4, ty9, ty22, ty23, ty27, ty34, ty36, tb4, h6, levQ]
  | cons p r ih =>
    intro i out t h1 h2 h3
    obtain ⟨g1, g2, g3⟩ := drop_cons h1
    have g8 : (i : Int) < l.length := by omega
    have hmem := List.mem_of_getElem? g2
    have hp := hb p hmem
    have hv := c_Size p.1.1 true true none none p.1.2.1 p.1.2.2 hp.2.1 hp.2.2
    have hk := c_packed true true none none p hp
    have hpe := he p hmem
    rw [sizeD_pl] at hv
    rw [roomN] at h3
    have n1 : (plP p).length ≤ 4000 := placesQ_len _ _ _
    rw [lp_eq lp23_22]
    unfold levQ
    by_cases hx : packedQ p = true
    · rw [if_pos hx] at h3 ⊢
      have t1 : ((t : Int) + ((plP p).length : Int)).toNat = t + (plP p).length := by omega
      have t2 : 0 ≤ (t : Int) + ((plP p).length : Int) := by omega
      have t3 : (t : Int) + ((plP p).length : Int) ≤ m.length := by omega
      have rs := row_seg m t (plP p).length (by omega)
      have t4 : (t : Int) ≤ (t : Int) + ((plP p).length : Int) := by omega
      by_cases hc : chP p = true
      · unfold chP at hc
        simp only [Bool.and_eq_true, decide_eq_true_eq] at hc
        have eP : errP out p.1.1 p.1.2.1 p.1.2.2 = 0 := by unfold errP; rw [if_neg (by omega), h2]; exact hpe
        have eU : errU out p.1.1 p.1.2.1 p.1.2.2 (segQ m t (plP p).length) = 0 := by unfold errU; rw [if_pos eP, segQ_len]; exact if_pos rfl
        have eQ : unpQ out p.1.1 p.1.2.1 p.1.2.2 (segQ m t (plP p).length) = putL (plP p) (segQ m t (plP p).length) out := by unfold unpQ; rw [if_pos eU]; rfl
        have hu := fun cap => c_Unpack p.1.1 false true true b none none none cap out p.1.2.1 p.1.2.2 (segQ m t (plP p).length) hp.2.1 hp.2.2 (by omega) (by rw [segQ_len]; omega) hp.1
        rw [eU, eQ, segQ_len] at hu
        have ih' := ih (i + 1) (putL (plP p) (segQ m t (plP p).length) out) (t + (plP p).length) g3 (by rw [putL_len, h2]) (by omega)
        simp only [cast1, List.length_append, List.length_cons, List.length_nil, Nat.zero_add, Nat.add_zero, Int.natCast_zero, Int.natCast_add, Int.zero_add, ints_1, ints_0, ] at ih'
        simp only [P1, hc.1] at hk
        rw [if_pos (show chP p = true by unfold chP; simp [hc.1, hc.2])]
        simp (config := { maxSteps := 1000000 }) (disch := omega) only [push_cast, ↓reduceIte, Nat.reduceEqDiff, Nat.reduceAdd, Nat.reduceLT, Nat.reduceLeDiff, Nat.reduceBEq, Nat.reduceMul, Nat.reduceSub, Int.reduceToNat, Int.reduceEq, Int.reduceLT, Int.reduceLE, Int.reduceNeg, Int.reduceAdd, Int.reduceSub, Int.reduceMul, Try.f23, kr23, kp23_22, kp23_8, ow23_22, ow23_8, ty3, ty4, ty9, ty22, ty23, ty27, ty34, ty36, tb4, g1, g8, ps0 g2, ps1 g2, ps2 g2, ps3 g2, ps4 g2, hv, hk, hx, hc.1, hc.2, t1, t2, t3, t4, Nat.add_sub_cancel_left, rs, hu, ih']
      · have ih' := ih (i + 1) out (t + (plP p).length) g3 h2 (by omega)
        simp only [cast1, List.length_append, List.length_cons, List.length_nil, Nat.zero_add, Nat.add_zero, Int.natCast_zero, Int.natCast_add, Int.zero_add, ints_1, ints_0, ] at ih'
        rw [if_neg hc]
        unfold chP at hc
        by_cases hc1 : p.2.2 = true
        · have hc2 : p.2.1 = (ByteArray.mk #[118, 97, 108, 117, 101]) := by
            refine Decidable.byContradiction fun h => hc ?_
            simp [hc1, h]
          simp only [P1, hc1, hc2] at hk
          simp (config := { maxSteps := 1000000 }) (disch := omega) only [push_cast, ↓reduceIte, Nat.reduceEqDiff, Nat.reduceAdd, Nat.reduceLT, Nat.reduceLeDiff, Nat.reduceBEq, Nat.reduceMul, Nat.reduceSub, Int.reduceToNat, Int.reduceEq, Int.reduceLT, Int.reduceLE, Int.reduceNeg, Int.reduceAdd, Int.reduceSub, Int.reduceMul, Try.f23, kr23, kp23_22, kp23_8, ow23_22, ow23_8, ty3, ty4, ty9, ty22, ty23, ty27, ty34, ty36, tb4, g1, g8, ps0 g2, ps1 g2, ps2 g2, ps3 g2, ps4 g2, hv, hk, hx, hc1, hc2, ih']
        · have hc1 : p.2.2 = false := by simpa using hc1
          simp only [P1, hc1] at hk
          simp (config := { maxSteps := 1000000 }) (disch := omega) only [push_cast, ↓reduceIte, Nat.reduceEqDiff, Nat.reduceAdd, Nat.reduceLT, Nat.reduceLeDiff, Nat.reduceBEq, Nat.reduceMul, Nat.reduceSub, Int.reduceToNat, Int.reduceEq, Int.reduceLT, Int.reduceLE, Int.reduceNeg, Int.reduceAdd, Int.reduceSub, Int.reduceMul, Try.f23, kr23, kp23_22, kp23_8, ow23_22, ow23_8, ty3, ty4, ty9, ty22, ty23, ty27, ty34, ty36, tb4, g1, g8, ps0 g2, ps1 g2, ps2 g2, ps3 g2, ps4 g2, hv, hk, hx, hc1, ih']
    · rw [if_neg hx] at h3 ⊢
      have ih' := ih (i + 1) out t g3 h2 (by omega)
      simp only [cast1, List.length_append, List.length_cons, List.length_nil, Nat.zero_add, Nat.add_zero, Int.natCast_zero, Int.natCast_add, Int.zero_add, ints_1, ints_0, ] at ih'
      simp (config := { maxSteps := 1000000 }) (disch := omega) only [push_cast, ↓reduceIte, Nat.reduceEqDiff, Nat.reduceAdd, Nat.reduceLT, Nat.reduceLeDiff, Nat.reduceBEq, Nat.reduceMul, Nat.reduceSub, Int.reduceToNat, Int.reduceEq, Int.reduceLT, Int.reduceLE, Int.reduceNeg, Int.reduceAdd, Int.reduceSub, Int.reduceMul, Try.f23, kr23, kp23_22, kp23_8, ow23_22, ow23_8, ty3, ty4, ty9, ty22, ty23, ty27, ty34, ty36, tb4, g1, g8, ps0 g2, ps1 g2, ps2 g2, ps3 g2, ps4 g2, hv, hk, hx, ih']
theorem row_take (k : Nat) : rowAt (ints m) 0 k = ints (m.take k) := by
  unfold rowAt ints
  rw [List.drop_zero, List.map_take]
def errL (m : List Int) (l : List PassQ) (n : Int) : Int := if ((0 ≤ n ∧ n ≤ 4000) ∧ (m.length : Int) = n + roomQ l ∧ (m.length : Int) ≤ 16000) ∧ okAll l then errA n.toNat l else 2
def levR (m : List Int) (l : List PassQ) (n : Int) : List Int := if errL m l n = 0 then levQ m l (m.take n.toNat) n.toNat else []
theorem c_Leave (n : Int) (hm : (m.length : Int) ≤ 9223372036854775806) (hb : ∀ p ∈ l, bdP p) :
    CALL 23 [SL b cm m.length (ints m), PsT q c l, I n] = some (.tup [.sl 0 0 (levR m l n).length 1 none, I (errL m l n)], [ints (levR m l n)]) := by
  have h1 := c_valid q c l hb
  have hr := roomQ_bd l
  unfold levR errL
  refine lim_run (fn := Try.f23) fn23 rfl body23 (Nat.le_of_ble_eq_true rfl) ok23 ?_
  by_cases k1 : n < 0
  · have e : ¬ (((0 ≤ n ∧ n ≤ 4000) ∧ (m.length : Int) = n + roomQ l ∧ (m.length : Int) ≤ 16000) ∧ okAll l) := fun h => by omega
    rw [if_neg e]
    simp (config := { maxSteps := 1000000 }) (disch := omega) only [push_cast, ↓reduceIte, Nat.reduceEqDiff, Nat.reduceAdd, Nat.reduceLT, Nat.reduceLeDiff, Nat.reduceBEq, Nat.reduceMul, Nat.reduceSub, Int.reduceToNat, Int.reduceEq, Int.reduceLT, Int.reduceLE, Int.reduceNeg, Int.reduceAdd, Int.reduceSub, Int.reduceMul, Try.f23, kr23, kp23_22, kp23_8, ow23_22, ow23_8, ty3, ty4, ty9, ty22, ty23, ty27, ty34, ty36, tb4, k1]
  · by_cases k2 : 4000 < n
    · have e : ¬ (((0 ≤ n ∧ n ≤ 4000) ∧ (m.length : Int) = n + roomQ l ∧ (m.length : Int) ≤ 16000) ∧ okAll l) := fun h => by omega
      rw [if_neg e]
      simp (config := { maxSteps := 1000000 }) (disch := omega) only [push_cast, ↓reduceIte, Nat.reduceEqDiff, Nat.reduceAdd, Nat.reduceLT, Nat.reduceLeDiff, Nat.reduceBEq, Nat.reduceMul, Nat.reduceSub, Int.reduceToNat, Int.reduceEq, Int.reduceLT, Int.reduceLE, Int.reduceNeg, Int.reduceAdd, Int.reduceSub, Int.reduceMul, Try.f23, kr23, kp23_22, kp23_8, ow23_22, ow23_8, ty3, ty4, ty9, ty22, ty23, ty27, ty34, ty36, tb4, k1, k2]
    · obtain ⟨n, rfl⟩ : ∃ k : Nat, n = k := ⟨n.toNat, by omega⟩
      by_cases k3 : (m.length : Int) < n
      · have e : ¬ (((0 ≤ (n : Int) ∧ (n : Int) ≤ 4000) ∧ (m.length : Int) = n + roomQ l ∧ (m.length : Int) ≤ 16000) ∧ okAll l) := fun h => by omega
        rw [if_neg e]
        simp (config := { maxSteps := 1000000 }) (disch := omega) only [push_cast, ↓reduceIte, Nat.reduceEqDiff, Nat.reduceAdd, Nat.reduceLT, Nat.reduceLeDiff, Nat.reduceBEq, Nat.reduceMul, Nat.reduceSub, Int.reduceToNat, Int.reduceEq, Int.reduceLT, Int.reduceLE, Int.reduceNeg, Int.reduceAdd, Int.reduceSub, Int.reduceMul, Try.f23, kr23, kp23_22, kp23_8, ow23_22, ow23_8, ty3, ty4, ty9, ty22, ty23, ty27, ty34, ty36, tb4, k1, k2, k3]
      · by_cases k4 : 16000 < (m.length : Int)
        · have e : ¬ (((0 ≤ (n : Int) ∧ (n : Int) ≤ 4000) ∧ (m.length : Int) = n + roomQ l ∧ (m.length : Int) ≤ 16000) ∧ okAll l) := fun h => by omega
          rw [if_neg e]
          simp (config := { maxSteps := 1000000 }) (disch := omega) only [push_cast, ↓reduceIte, Nat.reduceEqDiff, Nat.reduceAdd, Nat.reduceLT, Nat.reduceLeDiff, Nat.reduceBEq, Nat.reduceMul, Nat.reduceSub, Int.reduceToNat, Int.reduceEq, Int.reduceLT, Int.reduceLE, Int.reduceNeg, Int.reduceAdd, Int.reduceSub, Int.reduceMul, Try.f23, kr23, kp23_22, kp23_8, ow23_22, ow23_8, ty3, ty4, ty9, ty22, ty23, ty27, ty34, ty36, tb4, k1, k2, k3, k4]
        · by_cases ho : okAll l
          · have h0 := ho.1
            have hl := l_Leave8 q b c cm m l n (by omega) (by omega) hb l 0 n rfl (by omega) (by omega)
            simp only [cast1, List.length_append, List.length_cons, List.length_nil, Nat.zero_add, Nat.add_zero, Int.natCast_zero, Int.natCast_add, Int.zero_add, ints_1, ints_0, ] at hl
            by_cases k5 : (n : Int) + roomQ l = m.length
            · have e : (((0 ≤ (n : Int) ∧ (n : Int) ≤ 4000) ∧ (m.length : Int) = n + roomQ l ∧ (m.length : Int) ≤ 16000) ∧ okAll l) := ⟨by omega, ho⟩
              rw [if_pos e]
              have htl : (m.take n).length = n := by rw [List.length_take]; omega
              have ha := fun cap => c_all q b c cap (m.take n) l (by omega) hb ho
              have hc := fun cap => c_Clone b cap (m.take n) (by omega)
              rw [htl] at ha hc
              have k6 : (n : Int) ≤ m.length := by omega
              by_cases he : errA n l = 0
              · have hl2 := l_Leave22 q b c cm m l (by omega) (by omega) hb ho.2 n (by omega) (errA_mem he) l 0 (m.take n) n rfl htl (by have := roomN_eq l; omega)
                rw [htl, levQ_len, htl] at hl2
                simp only [cast1, List.length_append, List.length_cons, List.length_nil, Nat.zero_add, Nat.add_zero, Int.natCast_zero, Int.natCast_add, Int.zero_add, ints_1, ints_0, ] at hl2
                have rw' : rowAt (ints (levQ m l (m.take n) n)) 0 n = ints (levQ m l (m.take n) n) := by
                  have := rowAt_ints (levQ m l (m.take n) n)
                  rwa [levQ_len, htl] at this
                simp (config := { maxSteps := 1000000 }) (disch := omega) only [push_cast, ↓reduceIte, Nat.reduceEqDiff, Nat.reduceAdd, Nat.reduceLT, Nat.reduceLeDiff, Nat.reduceBEq, Nat.reduceMul, Nat.reduceSub, Int.reduceToNat, Int.reduceEq, Int.reduceLT, Int.reduceLE, Int.reduceNeg, Int.reduceAdd, Int.reduceSub, Int.reduceMul, Try.f23, kr23, kp23_22, kp23_8, ow23_22, ow23_8, ty3, ty4, ty9, ty22, ty23, ty27, ty34, ty36, tb4, k1, k2, k3, k4, h1, ho, hl, k5, k6, Nat.sub_zero, row_take, ha, hc, he, hl2, levQ_len, htl, rw']
              · simp (config := { maxSteps := 1000000 }) (disch := omega) only [push_cast, ↓reduceIte, Nat.reduceEqDiff, Nat.reduceAdd, Nat.reduceLT, Nat.reduceLeDiff, Nat.reduceBEq, Nat.reduceMul, Nat.reduceSub, Int.reduceToNat, Int.reduceEq, Int.reduceLT, Int.reduceLE, Int.reduceNeg, Int.reduceAdd, Int.reduceSub, Int.reduceMul, Try.f23, kr23, kp23_22, kp23_8, ow23_22, ow23_8, ty3, ty4, ty9, ty22, ty23, ty27, ty34, ty36, tb4, k1, k2, k3, k4, h1, ho, hl, k5, k6, Nat.sub_zero, row_take, ha, he]
            · have e : ¬ (((0 ≤ (n : Int) ∧ (n : Int) ≤ 4000) ∧ (m.length : Int) = n + roomQ l ∧ (m.length : Int) ≤ 16000) ∧ okAll l) := fun h => by omega
              rw [if_neg e]
              simp (config := { maxSteps := 1000000 }) (disch := omega) only [push_cast, ↓reduceIte, Nat.reduceEqDiff, Nat.reduceAdd, Nat.reduceLT, Nat.reduceLeDiff, Nat.reduceBEq, Nat.reduceMul, Nat.reduceSub, Int.reduceToNat, Int.reduceEq, Int.reduceLT, Int.reduceLE, Int.reduceNeg, Int.reduceAdd, Int.reduceSub, Int.reduceMul, Try.f23, kr23, kp23_22, kp23_8, ow23_22, ow23_8, ty3, ty4, ty9, ty22, ty23, ty27, ty34, ty36, tb4, k1, k2, k3, k4, h1, ho, hl, k5]
          · have e : ¬ (((0 ≤ (n : Int) ∧ (n : Int) ≤ 4000) ∧ (m.length : Int) = n + roomQ l ∧ (m.length : Int) ≤ 16000) ∧ okAll l) := fun h => ho h.2
            rw [if_neg e]
            simp (config := { maxSteps := 1000000 }) (disch := omega) only [push_cast, ↓reduceIte, Nat.reduceEqDiff, Nat.reduceAdd, Nat.reduceLT, Nat.reduceLeDiff, Nat.reduceBEq, Nat.reduceMul, Nat.reduceSub, Int.reduceToNat, Int.reduceEq, Int.reduceLT, Int.reduceLE, Int.reduceNeg, Int.reduceAdd, Int.reduceSub, Int.reduceMul, Try.f23, kr23, kp23_22, kp23_8, ow23_22, ow23_8, ty3, ty4, ty9, ty22, ty23, ty27, ty34, ty36, tb4, k1, k2, k3, k4, h1, ho]
end
end Go.Proofs.Ytochkebkfoophaa.Tev
