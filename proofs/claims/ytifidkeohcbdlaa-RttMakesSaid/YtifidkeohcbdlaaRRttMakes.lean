/- What the statement RttMakes asks of plain Lean values, and how its arguments are read. No condition. -/
import Derived.Test.YtifidkeohcbdlaaQRttMakesx3
import Derived.Test.YtifidkeohcbdlaaOpens
set_option linter.unusedVariables false
namespace Go.Proofs.Ytifidkeohcbdlaa.QRttMakes
open Go.RowKit Go.Proofs.Ytifidkeohcbdlaa.Opens Go.Proofs.YtifidkeohcbdlaaW.PrintWords Go.Proofs.YtifidkeohcbdlaaW.PrintLast
instance : Inhabited S27 := ⟨z27⟩
def ok27 (x : S27) : Prop := (Lit.int .u16 x.f0).wf = true ∧ (Lit.int .u16 x.f1).wf = true
theorem opens27 : Opens Try.prog 27 k27 ok27 :=
  opens_array (fun x : S27 => (x.f0, x.f1)) (fun y => ⟨y.1, y.2⟩) (fun _ => rfl) Try.underlying27 (by kernel_rfl) (at_cons (off := 0) (off' := 1) (opens_int Try.underlying26) (at_last (off := 1) (opens_int Try.underlying26) (by kernel_rfl)) (by kernel_rfl))
/-- THE PURE STATEMENT of sumpterlaw20_RttMakes. -/
def sumpterlaw20_RttMakes.Pure2 : Prop := ∀ (x0 : List (S27)), (x0.length ≤ 9223372036854775807 ∧ ∀ x ∈ x0, ok27 x) → ∃ k, sumpterlaw20_RttMakes.f k x0 = some true
end Go.Proofs.Ytifidkeohcbdlaa.QRttMakes
