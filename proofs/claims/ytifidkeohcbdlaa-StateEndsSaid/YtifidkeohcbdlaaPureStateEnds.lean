/- The statement StateEnds of the given program: whatever events come, a side that is done stays so, and each side takes at most three. No condition. -/
import Derived.Test.YtifidkeohcbdlaaPStateEndsx3
import Derived.OpenShut
namespace Go.Proofs.Ytifidkeohcbdlaa.Pure
open Go.RowKit Go.Proofs.Ytifidkeohcbdlaa.PStateEnds Go.Proofs.YtifidkeohcbdlaaW.PrintWords Go.Proofs.YtifidkeohcbdlaaW.PrintLast

theorem w64 {x : Int} (h1 : -9223372036854775808 ≤ x) (h2 : x ≤ 9223372036854775807) : wrap64 x = x := by unfold wrap64; omega

theorem awake_true : sumpterlaw25_awake.f 10 = some true := by decide +kernel
theorem awake_more (k : Nat) : sumpterlaw25_awake.f (k + 10) = some true := by
  induction k with
  | zero => exact awake_true
  | succ k ih => exact sumpterlaw25_awake.mono _ _ ih

/-- How far a sending side is: the most events that are no Write behind it. -/
def rankS (s : Nat) : Int := if s ≤ 1 then 0 else if s = 2 then 1 else if s ≤ 4 then 2 else 3
/-- How far a receiving side is. -/
def rankR (s : Nat) : Int := if s = 0 then 0 else if s = 1 then 1 else if s = 2 then 2 else if s = 4 then 2 else 3

theorem sends_10 : ∀ s e : Fin 6, ∃ s' : Fin 6, ∃ b : Bool, state_Sends.f 10 (s.val : Int) (e.val : Int) = some ((s'.val : Int), b) ∧ (b = false → s' = s) ∧ (b = true → s.val ≠ 3 ∧ s.val ≠ 5) ∧ rankS s.val + (if b = true ∧ e.val ≠ 0 then 1 else 0) ≤ rankS s'.val := by decide +kernel
theorem recvs_10 : ∀ s e : Fin 6, ∃ s' : Fin 6, ∃ b : Bool, state_Receives.f 10 (s.val : Int) (e.val : Int) = some ((s'.val : Int), b) ∧ (b = false → s' = s) ∧ (b = true → s.val ≠ 3 ∧ s.val ≠ 5) ∧ rankR s.val + (if b = true then 1 else 0) ≤ rankR s'.val := by decide +kernel
theorem sends_more (s e : Int) (r : Int × Bool) (h : state_Sends.f 10 s e = some r) (k : Nat) : state_Sends.f (k + 10) s e = some r := by
  induction k with
  | zero => exact h
  | succ k ih => exact state_Sends.mono _ _ _ _ ih
theorem recvs_more (s e : Int) (r : Int × Bool) (h : state_Receives.f 10 s e = some r) (k : Nat) : state_Receives.f (k + 10) s e = some r := by
  induction k with
  | zero => exact h
  | succ k ih => exact state_Receives.mono _ _ _ _ ih

theorem j3_step (k : Nat) (l : List Int) (s r x5 x6 i s' : Int) (b : Bool) (r' : Int) (c : Bool)
    (h1 : b = true → s ≠ 3 ∧ s ≠ 5) (h2 : b = false → s' = s) (h3 : c = true → r ≠ 3 ∧ r ≠ 5) (h4 : c = false → r' = r) :
    sumpterlaw25_StateEnds.j3 (k + 1) l s r x5 x6 i s' b r' c = sumpterlaw25_StateEnds.l0 k l s' r' x5 x6 (wrap64 (i + 1)) := by
  unfold sumpterlaw25_StateEnds.j3 state_SendDone.f state_RecvDone.f
  cases b <;> cases c <;> simp at h1 h2 h3 h4 <;> by_cases hs3 : s = 3 <;> by_cases hs5 : s = 5 <;> by_cases hr3 : r = 3 <;> by_cases hr5 : r = 5 <;> simp_all

theorem loop_true (l : List Int) (hl : ∀ x ∈ l, 0 ≤ x ∧ x ≤ 255) (hn : l.length ≤ 200) (d : Nat) :
    ∀ (k : Nat) (s r : Fin 6) (x5 x6 i : Int), 0 ≤ i → i ≤ l.length → (l.length : Int) - i = d → 5 * d + 20 < k → 0 ≤ x5 → x5 ≤ rankS s.val → 0 ≤ x6 → x6 ≤ rankR r.val →
      sumpterlaw25_StateEnds.l0 k l (s.val : Int) (r.val : Int) x5 x6 i = some true := by
  induction d with
  | zero =>
    intro k s r x5 x6 i hi h1 hd hk p0 p1 q0 q1
    obtain ⟨k, rfl⟩ : ∃ m, k = m + 11 := ⟨k - 11, by omega⟩
    have e1 : rankS s.val ≤ 3 := by unfold rankS; split <;> (try split) <;> (try split) <;> omega
    have e2 : rankR r.val ≤ 3 := by unfold rankR; split <;> (try split) <;> (try split) <;> (try split) <;> omega
    unfold sumpterlaw25_StateEnds.l0
    rw [if_neg (by omega), if_pos (by omega), if_pos (by omega), awake_more]
    rfl
  | succ d ih =>
    intro k s r x5 x6 i hi h1 hd hk p0 p1 q0 q1
    obtain ⟨k, rfl⟩ : ∃ m, k = m + 15 := ⟨k - 15, by omega⟩
    have hlt : i < (l.length : Int) := by omega
    have hr : 0 ≤ rd l i ∧ rd l i ≤ 255 := by
      unfold rd
      rw [List.getD_eq_getElem?_getD, List.getElem?_eq_getElem (by omega)]
      exact hl _ (List.getElem_mem _)
    obtain ⟨e, he⟩ : ∃ e : Fin 6, Int.tmod (rd l i) 6 = (e.val : Int) := ⟨⟨(rd l i % 6).toNat, by omega⟩, by rw [Int.tmod_eq_emod_of_nonneg hr.1]; simp; omega⟩
    obtain ⟨s', b, hs, hs1, hs2, hs3⟩ := sends_10 s e
    obtain ⟨r', c, hr, hr1, hr2, hr3⟩ := recvs_10 r e
    have es1 : rankS s.val ≤ 3 := by unfold rankS; split <;> (try split) <;> (try split) <;> omega
    have es2 : rankR r.val ≤ 3 := by unfold rankR; split <;> (try split) <;> (try split) <;> (try split) <;> omega
    have w5 : wrap64 (x5 + 1) = x5 + 1 := w64 (by omega) (by omega)
    have w6 : wrap64 (x6 + 1) = x6 + 1 := w64 (by omega) (by omega)
    have wi : wrap64 (i + 1) = i + 1 := w64 (by omega) (by omega)
    have step : ∀ x5 x6, sumpterlaw25_StateEnds.j3 (k + 12) l s.val r.val x5 x6 i s'.val b r'.val c = sumpterlaw25_StateEnds.l0 (k + 11) l s'.val r'.val x5 x6 (i + 1) := by
      intro x5 x6
      rw [j3_step _ _ _ _ _ _ _ _ _ _ _ (fun h => by have := hs2 h; omega) (fun h => by rw [hs1 h]) (fun h => by have := hr2 h; omega) (fun h => by rw [hr1 h]), wi]
    have fin : ∀ y5 y6, 0 ≤ y5 → y5 ≤ rankS s'.val → 0 ≤ y6 → y6 ≤ rankR r'.val → sumpterlaw25_StateEnds.l0 (k + 11) l s'.val r'.val y5 y6 (i + 1) = some true := by
      intro y5 y6 a1 a2 a3 a4
      exact ih (k + 11) s' r' y5 y6 (i + 1) (by omega) (by omega) (by omega) (by omega) a1 a2 a3 a4
    unfold sumpterlaw25_StateEnds.l0
    rw [if_pos hlt, if_pos hi, he, sends_more _ _ _ hs (k + 4), recvs_more _ _ _ hr (k + 4)]
    simp only [Option.bind_some]
    by_cases he0 : e.val = 0
    · have hne : ((e.val : Int) != 0) = false := by simp [he0]
      rw [hne]
      have h5 : x5 ≤ rankS s'.val := by
        rw [if_neg (by simp [he0])] at hs3
        omega
      cases b <;> cases c <;> simp only [sumpterlaw25_StateEnds.j1, sumpterlaw25_StateEnds.j2, if_true, Bool.false_eq_true, if_false, step, w6] <;> simp only [if_true, Bool.false_eq_true, if_false] at hr3 <;> exact fin _ _ (by omega) (by omega) (by omega) (by omega)
    · have hne : ((e.val : Int) != 0) = true := by simp; omega
      rw [hne]
      cases b <;> cases c <;> simp only [sumpterlaw25_StateEnds.j1, sumpterlaw25_StateEnds.j2, if_true, Bool.false_eq_true, if_false, step, w5, w6] <;> simp [he0] at hs3 hr3 <;> exact fin _ _ (by omega) (by omega) (by omega) (by omega)

theorem StateEnds : sumpterlaw25_StateEnds.Pure := by
  intro l0 _ _ hl
  refine ⟨5 * l0.length + 40, ?_⟩
  unfold sumpterlaw25_StateEnds.f
  by_cases hc : (l0.length : Int) > 200
  · rw [if_pos hc, show 5 * l0.length + 40 = (5 * l0.length + 30) + 10 from rfl, awake_more]; rfl
  · rw [if_neg hc]
    exact loop_true l0 (fun x hx => bounds_u8 (hl x hx)) (by omega) l0.length _ 0 0 0 0 0 (by omega) (by omega) (by omega) (by omega) (by omega) (by decide) (by omega) (by decide)

end Go.Proofs.Ytifidkeohcbdlaa.Pure
