/- What the statement CrcTurned asks of plain Lean values, and how its arguments are read. No condition. -/
import Derived.Test.YtklacmafifaajaaDoorQCrcTurnedx2
import Derived.Test.YtklacmafifaajaaDoorOpens
set_option linter.unusedVariables false
namespace Go.Proofs.YtklacmafifaajaaDoor.QCrcTurned
open Go.RowKit Go.Proofs.YtklacmafifaajaaDoor.Opens Go.Proofs.YtklacmafifaajaaDoorW.PrintWords Go.Proofs.YtklacmafifaajaaDoorW.PrintLast
/-- THE PURE STATEMENT of sumpterlaw03_CrcTurned. -/
def sumpterlaw03_CrcTurned.Pure2 : Prop := ∀ (x0 : List Int) (x1 : Int) (x2 : Int), x0.length ≤ maxLen → x0.length * 1 ≤ 140737488351232 → (∀ x ∈ x0, (Lit.int .u8 x).wf = true) → (Lit.int .u16 x1).wf = true → (Lit.int .u8 x2).wf = true → ∃ k, sumpterlaw03_CrcTurned.f k x0 x1 x2 = some true
end Go.Proofs.YtklacmafifaajaaDoor.QCrcTurned
