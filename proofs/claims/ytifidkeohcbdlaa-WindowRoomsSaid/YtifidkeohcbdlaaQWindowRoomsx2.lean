/- Contracts of the functions that a statement of the given program reaches, written by a program of this session over the kit's print. No condition. -/
import Derived.Test.YtifidkeohcbdlaaQWindowRoomsx0
namespace Go.Proofs.Ytifidkeohcbdlaa.QWindowRooms
open Go.RowKit Go.Proofs.YtifidkeohcbdlaaW.PrintWords Go.Proofs.YtifidkeohcbdlaaW.PrintLast Go.Proofs.YtifidkeohcbdlaaW.PrintMore
attribute [local go_sem] max2_int min2_int max_two min_two max_three min_three max_four min_four   -- for this text's walks alone
set_option linter.unusedVariables false
set_option linter.unusedSimpArgs false

theorem fieldA35_0 (w : World) (x0 x1 x2 x3 : Value) : (Instr.field 35 (.agg #[x0, x1, x2, x3]) 0).run Try.prog w = .ok (x0) w := by kernel_rfl
theorem cell_set_ite (w : World) (g i : Nat) (v : Value) (h j : Nat) : (w.setCell ⟨g, i, none⟩ v).cell? ⟨h, j, none⟩ = if g = h ∧ i = j then (w.cell? ⟨g, i, none⟩).map (fun _ => v) else w.cell? ⟨h, j, none⟩ := by
  by_cases e : g = h ∧ i = j
  · obtain ⟨rfl, rfl⟩ := e
    rw [if_pos ⟨rfl, rfl⟩]
    cases hc : w.cell? ⟨g, i, none⟩ with
    | some u => exact World.cell?_setCell_same _ _ _ hc
    | none =>
      simp only [World.cell?, World.setCell] at hc ⊢
      rw [Array.getElem?_modify]
      simp only [if_true]
      cases hh : w.heap[g]? with
      | none => rfl
      | some o => cases o <;> simp_all
  · rw [if_neg e]; exact World.cell?_setCell_other _ _ _ _ (fun h => e (by injection h with a b c; exact ⟨a, b⟩))
end Go.Proofs.Ytifidkeohcbdlaa.QWindowRooms
