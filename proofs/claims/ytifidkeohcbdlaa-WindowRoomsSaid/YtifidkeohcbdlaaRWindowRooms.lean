/- What the statement WindowRooms asks of plain Lean values, and how its arguments are read. No condition. -/
import Derived.Test.YtifidkeohcbdlaaQWindowRoomsx4
import Derived.Test.YtifidkeohcbdlaaOpens
set_option linter.unusedVariables false
namespace Go.Proofs.Ytifidkeohcbdlaa.QWindowRooms
open Go.RowKit Go.Proofs.Ytifidkeohcbdlaa.Opens Go.Proofs.YtifidkeohcbdlaaW.PrintWords Go.Proofs.YtifidkeohcbdlaaW.PrintLast
instance : Inhabited S33 := ⟨z33⟩
def ok33 (x : S33) : Prop := (Lit.int .i64 x.f0).wf = true ∧ (Lit.int .i64 x.f1).wf = true ∧ (Lit.int .i64 x.f2).wf = true ∧ (Lit.int .i64 x.f3).wf = true
theorem opens33 : Opens Try.prog 33 k33 ok33 :=
  opens_struct (fun x : S33 => (x.f0, x.f1, x.f2, x.f3)) (fun y => ⟨y.1, y.2.1, y.2.2.1, y.2.2.2⟩) (fun _ => rfl) Try.underlying33 (by kernel_rfl) (at_cons (off := 0) (off' := 1) (opens_int Try.underlying3) (at_cons (off := 1) (off' := 2) (opens_int Try.underlying3) (at_cons (off := 2) (off' := 3) (opens_int Try.underlying3) (at_last (off := 3) (opens_int Try.underlying3) (by kernel_rfl)) (by kernel_rfl)) (by kernel_rfl)) (by kernel_rfl))
/-- THE PURE STATEMENT of sumpterlaw22_WindowRooms. -/
def sumpterlaw22_WindowRooms.Pure2 : Prop := ∀ (x0 : S33) (x1 : Int), ok33 x0 → (Lit.int .i64 x1).wf = true → ∃ k, sumpterlaw22_WindowRooms.f k x0.f0 x0.f1 x0.f2 x0.f3 x1 = some true
end Go.Proofs.Ytifidkeohcbdlaa.QWindowRooms
