/- What the statement WindowStays asks of plain Lean values, and how its arguments are read. No condition. -/
import Derived.Test.YtifidkeohcbdlaaQWindowStaysx5
import Derived.Test.YtifidkeohcbdlaaOpens
set_option linter.unusedVariables false
namespace Go.Proofs.Ytifidkeohcbdlaa.QWindowStays
open Go.RowKit Go.Proofs.Ytifidkeohcbdlaa.Opens Go.Proofs.YtifidkeohcbdlaaW.PrintWords Go.Proofs.YtifidkeohcbdlaaW.PrintLast
instance : Inhabited S40 := ⟨z40⟩
def ok40 (x : S40) : Prop := (Lit.int .u16 x.f0).wf = true ∧ (Lit.int .u16 x.f1).wf = true ∧ (Lit.int .u16 x.f2).wf = true
theorem opens40 : Opens Try.prog 40 k40 ok40 :=
  opens_array (fun x : S40 => (x.f0, x.f1, x.f2)) (fun y => ⟨y.1, y.2.1, y.2.2⟩) (fun _ => rfl) Try.underlying40 (by kernel_rfl) (at_cons (off := 0) (off' := 1) (opens_int Try.underlying26) (at_cons (off := 1) (off' := 2) (opens_int Try.underlying26) (at_last (off := 2) (opens_int Try.underlying26) (by kernel_rfl)) (by kernel_rfl)) (by kernel_rfl))
/-- THE PURE STATEMENT of sumpterlaw22_WindowStays. -/
def sumpterlaw22_WindowStays.Pure2 : Prop := ∀ (x0 : List (S40)), (x0.length ≤ 9223372036854775807 ∧ ∀ x ∈ x0, ok40 x) → ∃ k, sumpterlaw22_WindowStays.f k x0 = some true
end Go.Proofs.Ytifidkeohcbdlaa.QWindowStays
