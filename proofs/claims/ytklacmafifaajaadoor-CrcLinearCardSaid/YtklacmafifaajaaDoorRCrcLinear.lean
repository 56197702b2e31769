/- What the statement CrcLinear asks of plain Lean values, and how its arguments are read. No condition. -/
import Derived.Test.YtklacmafifaajaaDoorQCrcLinearx2
import Derived.Test.YtklacmafifaajaaDoorOpens
set_option linter.unusedVariables false
namespace Go.Proofs.YtklacmafifaajaaDoor.QCrcLinear
open Go.RowKit Go.Proofs.YtklacmafifaajaaDoor.Opens Go.Proofs.YtklacmafifaajaaDoorW.PrintWords Go.Proofs.YtklacmafifaajaaDoorW.PrintLast
/-- THE PURE STATEMENT of sumpterlaw03_CrcLinear. -/
def sumpterlaw03_CrcLinear.Pure2 : Prop := ∀ (x0 : List Int) (x1 : List Int) (x2 : List Int), x0.length ≤ maxLen → x0.length * 1 ≤ 140737488351232 → (∀ x ∈ x0, (Lit.int .u8 x).wf = true) → x1.length ≤ maxLen → x1.length * 1 ≤ 140737488351232 → (∀ x ∈ x1, (Lit.int .u8 x).wf = true) → x2.length ≤ maxLen → x2.length * 1 ≤ 140737488351232 → (∀ x ∈ x2, (Lit.int .u8 x).wf = true) → ∃ k, sumpterlaw03_CrcLinear.f k x0 x1 x2 = some true
end Go.Proofs.YtklacmafifaajaaDoor.QCrcLinear
