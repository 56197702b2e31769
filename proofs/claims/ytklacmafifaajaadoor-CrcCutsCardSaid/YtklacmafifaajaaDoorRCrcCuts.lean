/- What the statement CrcCuts asks of plain Lean values, and how its arguments are read. No condition. -/
import Derived.Test.YtklacmafifaajaaDoorQCrcCutsx2
import Derived.Test.YtklacmafifaajaaDoorOpens
set_option linter.unusedVariables false
namespace Go.Proofs.YtklacmafifaajaaDoor.QCrcCuts
open Go.RowKit Go.Proofs.YtklacmafifaajaaDoor.Opens Go.Proofs.YtklacmafifaajaaDoorW.PrintWords Go.Proofs.YtklacmafifaajaaDoorW.PrintLast
/-- THE PURE STATEMENT of sumpterlaw03_CrcCuts. -/
def sumpterlaw03_CrcCuts.Pure2 : Prop := ∀ (x0 : List Int) (x1 : Int), x0.length ≤ maxLen → x0.length * 1 ≤ 140737488351232 → (∀ x ∈ x0, (Lit.int .u8 x).wf = true) → (Lit.int .u16 x1).wf = true → ∃ k, sumpterlaw03_CrcCuts.f k x0 x1 = some true
end Go.Proofs.YtklacmafifaajaaDoor.QCrcCuts
