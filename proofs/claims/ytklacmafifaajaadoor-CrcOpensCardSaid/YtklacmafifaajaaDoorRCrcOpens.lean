/- What the statement CrcOpens asks of plain Lean values, and how its arguments are read. No condition. -/
import Derived.Test.YtklacmafifaajaaDoorQCrcOpensx4
import Derived.Test.YtklacmafifaajaaDoorOpens
set_option linter.unusedVariables false
namespace Go.Proofs.YtklacmafifaajaaDoor.QCrcOpens
open Go.RowKit Go.Proofs.YtklacmafifaajaaDoor.Opens Go.Proofs.YtklacmafifaajaaDoorW.PrintWords Go.Proofs.YtklacmafifaajaaDoorW.PrintLast
/-- THE PURE STATEMENT of sumpterlaw03_CrcOpens. -/
def sumpterlaw03_CrcOpens.Pure2 : Prop := ∀ (x0 : List Int), x0.length ≤ maxLen → x0.length * 1 ≤ 140737488351232 → (∀ x ∈ x0, (Lit.int .u8 x).wf = true) → ∃ k, sumpterlaw03_CrcOpens.f k x0 = some true
end Go.Proofs.YtklacmafifaajaaDoor.QCrcOpens
