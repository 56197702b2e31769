/- The statement WindowGrows of the given program: below its threshold the window grows by what is acknowledged, from it on by a packet for each window. No condition. -/
import Derived.Test.YtifidkeohcbdlaaMWindowGrowsx4
import Derived.OpenShut
namespace Go.Proofs.Ytifidkeohcbdlaa.Pure
open Go.RowKit Go.Proofs.Ytifidkeohcbdlaa.PWindowGrows Go.Proofs.YtifidkeohcbdlaaW.PrintWords Go.Proofs.YtifidkeohcbdlaaW.PrintLast

theorem awake_true (k : Nat) : sumpterlaw22_awake.f (k + 1) = some true := by
  simp [sumpterlaw22_awake.f, window_New.f, window_Acked.f, window_Acked.j0, window_Lost.f, window_Check.f, window_within.f, window_State_recovering.f, window_State_grown.f, window_Room.f, window_Collapsed.f, wrap64, mx, mn]

theorem w64 {x : Int} (h1 : -9223372036854775808 ≤ x) (h2 : x ≤ 9223372036854775807) : wrap64 x = x := by unfold wrap64; omega

/-- A round that doesn't fill the window. -/
theorem acked_more (k : Nat) (c m : Int) (h0 : 0 ≤ c) (h1 : 0 ≤ m) (h2 : c + m < 6000) : window_Acked.f (k + 1) 6000 6000 1 c m 2 = some (6000, 6000, 1, c + m) := by
  have e1 : wrap64 (c + m) = c + m := w64 (by omega) (by omega)
  have e2 : mn (c + m) 5999 = c + m := by unfold mn; omega
  have g1 : c ≤ 5999 := by omega
  have g2 : m ≤ 1048576 := by omega
  have g3 : ¬ 6000 ≤ c + m := by omega
  have e3 : wrap64 5999 = 5999 := w64 (by omega) (by omega)
  simp [window_Acked.f, window_Acked.j0, window_Check.f, window_within.f, window_State_recovering.f, e1, e2, e3, h0, h1, g1, g2, g3]

/-- The round that fills it. -/
theorem acked_last (k : Nat) (c m : Int) (h0 : 0 ≤ c) (h3 : c < 6000) (h1 : 0 ≤ m) (h2 : c + m = 6000) : window_Acked.f (k + 1) 6000 6000 1 c m 2 = some (7200, 6000, 1, 0) := by
  have e1 : wrap64 (c + m) = 6000 := by rw [w64 (by omega) (by omega)]; exact h2
  have g1 : c ≤ 5999 := by omega
  have g2 : m ≤ 1048576 := by omega
  have e3 : wrap64 5999 = 5999 := w64 (by omega) (by omega)
  have e4 : wrap64 7200 = 7200 := w64 (by omega) (by omega)
  simp [window_Acked.f, window_Acked.j0, window_Check.f, window_within.f, window_State_recovering.f, window_State_grown.f, e1, e3, e4, h0, h1, g1, g2, mn, wrap64]

theorem loop_end (k : Nat) (n left : Int) (h : left ≤ 0) : sumpterlaw22_WindowGrows.l0 (k + 2) n 6000 left 7200 6000 1 0 = some true := by
  unfold sumpterlaw22_WindowGrows.l0
  rw [if_neg (by omega), awake_true, w64 (by omega) (by omega)]
  simp

theorem loop_true (n : Int) (h0 : 1 ≤ n) (h : n ≤ 1200) (d : Nat) :
    ∀ (k : Nat) (left : Int), 0 < left → left ≤ 6000 → left.toNat = d → d + 3 < k → sumpterlaw22_WindowGrows.l0 k n 6000 left 6000 6000 1 (6000 - left) = some true := by
  induction d using Nat.strongRecOn with
  | _ d ih =>
    intro k left h1 h2 hd hk
    obtain ⟨k, rfl⟩ : ∃ m, k = m + 2 := ⟨k - 2, by omega⟩
    have e1 : wrap64 (left - n) = left - n := w64 (by omega) (by omega)
    unfold sumpterlaw22_WindowGrows.l0
    rw [if_pos (by omega), if_pos rfl, e1]
    by_cases hc : left ≤ n
    · have em : mn n left = left := by unfold mn; omega
      rw [em, acked_last k (6000 - left) left (by omega) (by omega) (by omega) (by omega)]
      simp only [Option.bind_some]
      obtain ⟨k, rfl⟩ : ∃ m, k = m + 1 := ⟨k - 1, by omega⟩
      exact loop_end k n _ (by omega)
    · have em : mn n left = n := by unfold mn; omega
      rw [em, acked_more k (6000 - left) n (by omega) (by omega) (by omega)]
      simp only [Option.bind_some]
      have := ih (left - n).toNat (by omega) (k + 1) (left - n) (by omega) (by omega) rfl (by omega)
      rwa [show 6000 - (left - n) = 6000 - left + n from by omega] at this

theorem WindowGrows : sumpterlaw22_WindowGrows.Pure := by
  intro a0 a1 h
  have hb := bounds_u16 h
  obtain ⟨K, hK⟩ : ∃ K : Nat, K = 6010 := ⟨_, rfl⟩
  obtain ⟨k, rfl⟩ : ∃ k : Nat, K = k + 1 := ⟨K - 1, by omega⟩
  refine ⟨k + 1, ?_⟩
  have e0 : wrap64 a0 = a0 := w64 (by omega) (by omega)
  have et : Int.tmod a0 1200 = a0 % 1200 := Int.tmod_eq_emod_of_nonneg hb.1
  obtain ⟨n, hn⟩ : ∃ n, n = 1 + a0 % 1200 := ⟨_, rfl⟩
  have en : wrap64 (1 + Int.tmod (wrap64 a0) 1200) = n := by rw [e0, et, w64 (by omega) (by omega), hn]
  have hn1 : 1 ≤ n := by omega
  have hn2 : n ≤ 1200 := by omega
  clear hn
  unfold sumpterlaw22_WindowGrows.f
  rw [en]
  cases a1 with
  | true =>
    have hlost : window_Lost.f 12000 1073741824 (-1) 0 0 1 = some (6000, 6000, 1, 0) := by decide +kernel
    simp only [window_New.f, Option.bind_some, if_true, hlost]
    exact loop_true n hn1 hn2 6000 _ 6000 (by omega) (by omega) (by omega) (by omega)
  | false =>
    have hack : window_Acked.f (k + 1) 12000 1073741824 (-1) 0 n 0 = some (12000 + n, 1073741824, -1, 0) := by
      have e1 : wrap64 (12000 + n) = 12000 + n := w64 (by omega) (by omega)
      have e2 : mn (12000 + n) 1073741824 = 12000 + n := by unfold mn; omega
      have g1 : 0 ≤ n := by omega
      have g2 : n ≤ 1048576 := by omega
      have e3 : wrap64 11999 = 11999 := w64 (by omega) (by omega)
      simp [window_Acked.f, window_Acked.j0, window_Check.f, window_within.f, window_State_recovering.f, window_State_grown.f, e1, e2, e3, g1, g2]
    have e1 : wrap64 (12000 + n) = 12000 + n := w64 (by omega) (by omega)
    simp only [window_New.f, Option.bind_some, hack, e1, awake_true]
    simp

end Go.Proofs.Ytifidkeohcbdlaa.Pure
