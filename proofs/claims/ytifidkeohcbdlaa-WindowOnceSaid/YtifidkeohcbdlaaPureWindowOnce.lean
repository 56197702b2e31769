/- The statement WindowOnce of the given program: what is lost of packets sent up to one time halves the window once. No condition. -/
import Derived.Test.YtifidkeohcbdlaaMWindowOncex4
import Derived.OpenShut
namespace Go.Proofs.Ytifidkeohcbdlaa.Pure
open Go.RowKit Go.Proofs.Ytifidkeohcbdlaa.PWindowOnce Go.Proofs.YtifidkeohcbdlaaW.PrintWords Go.Proofs.YtifidkeohcbdlaaW.PrintLast

theorem awake_true (k : Nat) : sumpterlaw22_awake.f (k + 1) = some true := by
  simp [sumpterlaw22_awake.f, window_New.f, window_Acked.f, window_Acked.j0, window_Lost.f, window_Check.f, window_within.f, window_State_recovering.f, window_State_grown.f, window_Room.f, window_Collapsed.f, wrap64, mx, mn]

theorem w64 {x : Int} (h1 : -9223372036854775808 ≤ x) (h2 : x ≤ 9223372036854775807) : wrap64 x = x := by unfold wrap64; omega

theorem lost_same (a t : Int) (h0 : 0 ≤ a) (h : a ≤ 65535) (ht : t ≤ a) : window_Lost.f 6000 6000 a 0 t a = some (6000, 6000, a, 0) := by
  have h1 : a ≥ -1 := by omega
  have h2 : a ≤ 1099511627776 := by omega
  simp [window_Lost.f, window_Check.f, window_within.f, window_State_recovering.f, wrap64, h0, h1, h2, ht]

theorem acked_same (k : Nat) (a t : Int) (h0 : 0 ≤ a) (h : a ≤ 65535) (ht : t ≤ a) : window_Acked.f (k + 1) 6000 6000 a 0 1200 t = some (6000, 6000, a, 0) := by
  have h1 : a ≥ -1 := by omega
  have h2 : a ≤ 1099511627776 := by omega
  simp [window_Acked.f, window_Acked.j0, window_Check.f, window_within.f, window_State_recovering.f, wrap64, h1, h2, ht]

theorem loop_true (a : Int) (l : List Int) (h0 : 0 ≤ a) (h : a ≤ 65535) (hl : ∀ x ∈ l, 0 ≤ x ∧ x ≤ 65535) (hn : l.length ≤ 100) (d : Nat) :
    ∀ (k : Nat) (i : Int), 0 ≤ i → i ≤ l.length → (l.length : Int) - i = d → d + 1 < k → sumpterlaw22_WindowOnce.l0 k a l i 6000 6000 a 0 = some true := by
  induction d with
  | zero =>
    intro k i hi h1 hd hk
    obtain ⟨k, rfl⟩ : ∃ m, k = m + 2 := ⟨k - 2, by omega⟩
    simp only [sumpterlaw22_WindowOnce.l0]
    rw [if_neg (by omega), awake_true]; rfl
  | succ d ih =>
    intro k i hi h1 hd hk
    obtain ⟨k, rfl⟩ : ∃ m, k = m + 2 := ⟨k - 2, by omega⟩
    have hlt : i < (l.length : Int) := by omega
    have hm : mn (rd l i) a ≤ a := by unfold mn; omega
    have hr : 0 ≤ rd l i ∧ rd l i ≤ 65535 := by
      unfold rd
      rw [List.getD_eq_getElem?_getD, List.getElem?_eq_getElem (by omega)]
      exact hl _ (List.getElem_mem _)
    have hm2 : 0 ≤ mn (rd l i) a := by unfold mn; omega
    have e1 : wrap64 (mn (rd l i) a) = mn (rd l i) a := w64 (by omega) (by omega)
    have e2 : wrap64 a = a := w64 (by omega) (by omega)
    have e3 : wrap64 (i + 1) = i + 1 := w64 (by omega) (by omega)
    unfold sumpterlaw22_WindowOnce.l0
    rw [if_pos hlt, if_pos hi, e1, e2, e3, lost_same a _ h0 h hm]
    simp only [Option.bind_some]
    rw [if_neg (by simp), acked_same k a _ h0 h hm]
    simp only [Option.bind_some]
    rw [if_neg (by simp)]
    exact ih (k + 1) (i + 1) (by omega) (by omega) (by omega) (by omega)

theorem WindowOnce : sumpterlaw22_WindowOnce.Pure := by
  intro a0 l1 h _ _ hl
  have hb := bounds_u16 h
  have hl' : ∀ x ∈ l1, 0 ≤ x ∧ x ≤ 65535 := by
    intro x hx
    exact bounds_u16 (hl x hx)
  refine ⟨l1.length + 5, ?_⟩
  unfold sumpterlaw22_WindowOnce.f
  by_cases hc : (l1.length : Int) > 100
  · rw [if_pos hc, awake_true]; rfl
  · rw [if_neg hc]
    have e2 : wrap64 a0 = a0 := w64 (by omega) (by omega)
    have hlost : window_Lost.f 12000 1073741824 (-1) 0 0 a0 = some (6000, 6000, a0, 0) := by
      have h2 : a0 ≤ 1099511627776 := by omega
      simp [window_Lost.f, window_Check.f, window_within.f, window_State_recovering.f, wrap64, mx, hb.1, h2]
    rw [e2]
    simp only [window_New.f, Option.bind_some, hlost, if_true]
    simp only [sumpterlaw22_WindowOnce.j0, bne_self_eq_false]
    rw [if_neg (by simp)]
    exact loop_true a0 l1 hb.1 hb.2 hl' (by omega) l1.length _ 0 (by omega) (by omega) (by omega) (by omega)

end Go.Proofs.Ytifidkeohcbdlaa.Pure
