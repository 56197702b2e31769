/- What the statement CrcSums asks of plain Lean values, and how its arguments are read. No condition. -/
import Derived.Test.YtklacmafifaajaaDoorQCrcSumsx3
import Derived.Test.YtklacmafifaajaaDoorOpens
set_option linter.unusedVariables false
namespace Go.Proofs.YtklacmafifaajaaDoor.QCrcSums
open Go.RowKit Go.Proofs.YtklacmafifaajaaDoor.Opens Go.Proofs.YtklacmafifaajaaDoorW.PrintWords Go.Proofs.YtklacmafifaajaaDoorW.PrintLast
/-- THE PURE STATEMENT of sumpterlaw03_CrcSums. -/
def sumpterlaw03_CrcSums.Pure2 : Prop := ∀ (x0 : Int) (x1 : List Int), (Lit.int .u32 x0).wf = true → x1.length ≤ maxLen → x1.length * 1 ≤ 140737488351232 → (∀ x ∈ x1, (Lit.int .u8 x).wf = true) → ∃ k, sumpterlaw03_CrcSums.f k x0 x1 = some true
end Go.Proofs.YtklacmafifaajaaDoor.QCrcSums
