/- What the statement FlowKeeps asks of plain Lean values, and how its arguments are read. No condition. -/
import Derived.Test.YtifidkeohcbdlaaQFlowKeepsx4
import Derived.Test.YtifidkeohcbdlaaOpens
set_option linter.unusedVariables false
namespace Go.Proofs.Ytifidkeohcbdlaa.QFlowKeeps
open Go.RowKit Go.Proofs.Ytifidkeohcbdlaa.Opens Go.Proofs.YtifidkeohcbdlaaW.PrintWords Go.Proofs.YtifidkeohcbdlaaW.PrintLast
instance : Inhabited S27 := ⟨z27⟩
def ok27 (x : S27) : Prop := (Lit.int .u16 x.f0).wf = true ∧ (Lit.int .u16 x.f1).wf = true
theorem opens27 : Opens Try.prog 27 k27 ok27 :=
  opens_array (fun x : S27 => (x.f0, x.f1)) (fun y => ⟨y.1, y.2⟩) (fun _ => rfl) Try.underlying27 (by kernel_rfl) (at_cons (off := 0) (off' := 1) (opens_int Try.underlying26) (at_last (off := 1) (opens_int Try.underlying26) (by kernel_rfl)) (by kernel_rfl))
/-- THE PURE STATEMENT of sumpterlaw26_FlowKeeps. -/
def sumpterlaw26_FlowKeeps.Pure2 : Prop := ∀ (x0 : Int) (x1 : List (S27)), (Lit.int .u16 x0).wf = true → (x1.length ≤ 9223372036854775807 ∧ ∀ x ∈ x1, ok27 x) → ∃ k, sumpterlaw26_FlowKeeps.f k x0 x1 = some true
end Go.Proofs.Ytifidkeohcbdlaa.QFlowKeeps
