/- The statement WindowRooms of the given program, over plain Lean values: how much more may be under way is told, in any state, as the reference tells it. No condition. -/
import Derived.Test.YtifidkeohcbdlaaRWindowRooms
import Derived.OpenShut
namespace Go.Proofs.Ytifidkeohcbdlaa.Pure
open Go.RowKit Go.Proofs.Ytifidkeohcbdlaa.QWindowRooms Go.Proofs.YtifidkeohcbdlaaW.PrintWords Go.Proofs.YtifidkeohcbdlaaW.PrintLast

theorem w64 {x : Int} (h1 : -9223372036854775808 ≤ x) (h2 : x ≤ 9223372036854775807) : wrap64 x = x := by unfold wrap64; omega

theorem awake_true (k : Nat) : sumpterlaw22_awake.f (k + 1) = some true := by
  simp [sumpterlaw22_awake.f, window_New.f, window_Acked.f, window_Acked.j0, window_Lost.f, window_Check.f, window_within.f, window_State_recovering.f, window_State_grown.f, window_Room.f, window_Collapsed.f, wrap64, mx, mn]

theorem check_eq (a b c d : Int) (ha : -9223372036854775808 ≤ a ∧ a ≤ 9223372036854775807) : window_Check.f a b c d = some (decide (2400 ≤ a ∧ a ≤ 1073741824 ∧ 2400 ≤ b ∧ b ≤ 1073741824 ∧ -1 ≤ c ∧ c ≤ 1099511627776 ∧ 0 ≤ d ∧ d < a)) := by
  by_cases h1 : 2400 ≤ a
  · have hw : wrap64 (a - 1) = a - 1 := w64 (by omega) (by omega)
    have h0 : (a == 0) = false := by simp; omega
    by_cases h2 : a ≤ 1073741824 <;> by_cases h3 : 2400 ≤ b <;> by_cases h4 : b ≤ 1073741824 <;> by_cases h5 : -1 ≤ c <;> by_cases h6 : c ≤ 1099511627776 <;> by_cases h7 : 0 ≤ d <;>
      simp [window_Check.f, window_within.f, hw, h0, h1, h2, h3, h4, h5, h6, h7]
    constructor <;> intro <;> omega
  · by_cases h0 : a = 0 ∧ b = 0 ∧ c = 0 ∧ d = 0
    · obtain ⟨rfl, rfl, rfl, rfl⟩ := h0
      simp [window_Check.f]
    · have : (!(a == 0) || (!(b == 0) || (!(c == 0) || (!(d == 0))))) = true := by
        simp only [Bool.or_eq_true, Bool.not_eq_true', beq_eq_false_iff_ne]; omega
      simp [window_Check.f, window_within.f, this, h1]

theorem check_ref (a b c d : Int) : sumpterref22_Check.f a b c d = some (decide (2400 ≤ a ∧ a ≤ 1073741824 ∧ 2400 ≤ b ∧ b ≤ 1073741824 ∧ -1 ≤ c ∧ c ≤ 1099511627776 ∧ 0 ≤ d ∧ d < a)) := by
  by_cases h1 : 2400 ≤ a <;> by_cases h2 : a ≤ 1073741824 <;> by_cases h3 : 2400 ≤ b <;> by_cases h4 : b ≤ 1073741824 <;> by_cases h5 : -1 ≤ c <;> by_cases h6 : c ≤ 1099511627776 <;> by_cases h7 : 0 ≤ d <;>
    simp [sumpterref22_Check.f, h1, h2, h3, h4, h5, h6, h7]

theorem mx_comm (a : Int) : mx a 0 = mx 0 a := by
  show (if a < 0 then 0 else a) = (if 0 < a then a else 0)
  split <;> split <;> omega

theorem WindowRooms : sumpterlaw22_WindowRooms.Pure2 := by
  intro s n hs _
  refine ⟨1, ?_⟩
  have hb := bounds_i64 hs.1
  have he : window_Room.f s.f0 s.f1 s.f2 s.f3 n = sumpterref22_Room.f s.f0 s.f1 s.f2 s.f3 n := by
    unfold window_Room.f sumpterref22_Room.f
    rw [check_eq _ _ _ _ hb, check_ref]
    simp only [Option.bind_some, mx_comm]
  have hr : ∃ r, sumpterref22_Room.f s.f0 s.f1 s.f2 s.f3 n = some r := by
    unfold sumpterref22_Room.f
    rw [check_ref]
    simp only [Option.bind_some]
    split
    · split <;> exact ⟨_, rfl⟩
    · exact ⟨_, rfl⟩
  obtain ⟨r, hr⟩ := hr
  unfold sumpterlaw22_WindowRooms.f
  rw [he, hr]
  simp only [Option.bind_some, if_true]
  rw [awake_true 0]; rfl

end Go.Proofs.Ytifidkeohcbdlaa.Pure
