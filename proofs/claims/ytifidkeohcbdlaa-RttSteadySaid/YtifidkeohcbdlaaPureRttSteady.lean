/- The statement RttSteady of the given program: where each sample is the same, without delay, that is what the state tells, and the variance falls to nothing. No condition. -/
import Derived.Test.YtifidkeohcbdlaaMRttSteadyx3
import Derived.OpenShut
namespace Go.Proofs.Ytifidkeohcbdlaa.Pure
open Go.RowKit Go.Proofs.Ytifidkeohcbdlaa.PRttSteady Go.Proofs.YtifidkeohcbdlaaW.PrintWords Go.Proofs.YtifidkeohcbdlaaW.PrintLast

theorem w64 {x : Int} (h1 : -9223372036854775808 ≤ x) (h2 : x ≤ 9223372036854775807) : wrap64 x = x := by unfold wrap64; omega

theorem awake_one : sumpterlaw20_awake.f 4 = some true := by decide +kernel
theorem awake_true (k : Nat) : sumpterlaw20_awake.f (k + 4) = some true := by
  induction k with
  | zero => exact awake_one
  | succ k ih => exact sumpterlaw20_awake.mono _ _ ih

/-- What the variance is at most, behind one sample and n more. -/
def most : Nat → Nat
  | 0 => 32767
  | n + 1 => 3 * most n / 4
theorem most_end (j : Nat) : most (60 + j) = 0 := by
  induction j with
  | zero => decide +kernel
  | succ j ih => show 3 * most (60 + j) / 4 = 0; rw [ih]

theorem sample_first (k : Nat) (n : Int) (h0 : 0 ≤ n) (h1 : n ≤ 65535) : rtt_Sample.f (k + 1) false 0 0 0 0 n 0 = some (true, n, n, n, n / 2) := by
  have g1 : n ≤ 1099511627776 := by omega
  have e1 : wrap64 (Int.tdiv n 2) = n / 2 := by rw [Int.tdiv_eq_ediv_of_nonneg h0, w64 (by omega) (by omega)]
  simp [rtt_Sample.f, rtt_may.f, rtt_Sample.j0, rtt_State_known.f, h0, g1, e1]

theorem sample_next (k : Nat) (n v : Int) (h0 : 0 ≤ n) (h1 : n ≤ 65535) (h2 : 0 ≤ v) (h3 : v ≤ 65535) : rtt_Sample.f (k + 1) true n n n v n 0 = some (true, n, n, n, 3 * v / 4) := by
  have g1 : n ≤ 1099511627776 := by omega
  have g2 : v ≤ 1099511627776 := by omega
  have e0 : wrap64 n = n := w64 (by omega) (by omega)
  have e1 : wrap64 (3 * v) = 3 * v := w64 (by omega) (by omega)
  have e2 : wrap64 (7 * n) = 7 * n := w64 (by omega) (by omega)
  have e3 : wrap64 (7 * n + n) = 8 * n := by rw [w64 (by omega) (by omega)]; omega
  have e4 : wrap64 (Int.tdiv (3 * v) 4) = 3 * v / 4 := by rw [Int.tdiv_eq_ediv_of_nonneg (by omega), w64 (by omega) (by omega)]
  have e6 : wrap64 0 = 0 := w64 (by omega) (by omega)
  have em : mn n n = n := by unfold mn; omega
  simp [rtt_Sample.f, rtt_may.f, rtt_Sample.j0, rtt_State_known.f, rtt_Check.f, rtt_apart.f, h0, g1, h2, g2, e0, e1, e2, e3, e4, e6, em]

theorem loop_true (n : Int) (t : Int) (h0 : 0 ≤ n) (h1 : n ≤ 65535) (ht0 : 0 ≤ t) (ht1 : t ≤ 255) (d : Nat) :
    ∀ (k i : Nat) (v : Int), 1 ≤ i → (i : Int) ≤ t + 1 → t + 1 - (i : Int) = d → d + 10 < k → 0 ≤ v → v ≤ (most (i - 1) : Nat) → v ≤ 65535 →
      sumpterlaw20_RttSteady.l0 k n t v (i : Int) true n n n v = some true := by
  induction d with
  | zero =>
    intro k i v hi h hd hk hv0 hv1 hv2
    obtain ⟨k, rfl⟩ : ∃ m, k = m + 5 := ⟨k - 5, by omega⟩
    have et : wrap64 t = t := w64 (by omega) (by omega)
    unfold sumpterlaw20_RttSteady.l0
    rw [et, if_neg (by omega)]
    by_cases hc : t < 60
    · rw [if_pos hc, awake_true]; rfl
    · have hm : most (i - 1) = 0 := by rw [show i - 1 = 60 + (i - 61) by omega]; exact most_end _
      rw [hm] at hv1
      rw [if_neg hc, if_pos (by omega), awake_true]; rfl
  | succ d ih =>
    intro k i v hi h hd hk hv0 hv1 hv2
    obtain ⟨k, rfl⟩ : ∃ m, k = m + 5 := ⟨k - 5, by omega⟩
    have et : wrap64 t = t := w64 (by omega) (by omega)
    have en : wrap64 n = n := w64 (by omega) (by omega)
    have ei : wrap64 ((i : Int) + 1) = ((i + 1 : Nat) : Int) := by rw [w64 (by omega) (by omega)]; rfl
    have hm : most (i + 1 - 1) = 3 * most (i - 1) / 4 := by
      rw [show i + 1 - 1 = (i - 1) + 1 by omega]; rfl
    unfold sumpterlaw20_RttSteady.l0
    rw [et, en, if_pos (by omega), sample_next (k + 3) n v h0 h1 hv0 hv2]
    simp only [Option.bind_some, if_true]
    rw [if_neg (by omega), ei]
    exact ih (k + 4) (i + 1) (3 * v / 4) (by omega) (by omega) (by omega) (by omega) (by omega) (by rw [hm]; omega) (by omega)

theorem RttSteady : sumpterlaw20_RttSteady.Pure := by
  intro a0 a1 h h'
  have hb := bounds_u16 h
  have hb' := bounds_u8 h'
  refine ⟨300, ?_⟩
  have et : wrap64 a1 = a1 := w64 (by omega) (by omega)
  have en : wrap64 a0 = a0 := w64 (by omega) (by omega)
  have e1 : wrap64 (0 + 1) = ((1 : Nat) : Int) := w64 (by omega) (by omega)
  unfold sumpterlaw20_RttSteady.f sumpterlaw20_RttSteady.l0
  rw [et, en, if_pos (by omega), sample_first 298 a0 hb.1 hb.2]
  simp only [Option.bind_some, if_true]
  rw [if_neg (by omega), e1]
  refine loop_true a0 a1 hb.1 hb.2 hb'.1 hb'.2 a1.toNat _ 1 _ (by omega) (by omega) (by omega) (by omega) (by omega) ?_ (by omega)
  show a0 / 2 ≤ ((32767 : Nat) : Int)
  omega

end Go.Proofs.Ytifidkeohcbdlaa.Pure
