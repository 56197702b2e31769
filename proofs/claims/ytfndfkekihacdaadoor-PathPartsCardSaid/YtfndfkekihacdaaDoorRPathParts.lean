/- What the statement PathParts asks of plain Lean values, and how its arguments are read. No condition. -/
import Derived.Test.YtfndfkekihacdaaDoorQPathPartsx3
import Derived.Test.YtfndfkekihacdaaDoorOpens
set_option linter.unusedVariables false
namespace Go.Proofs.YtfndfkekihacdaaDoor.QPathParts
open Go.RowKit Go.Proofs.YtfndfkekihacdaaDoor.Opens Go.Proofs.YtfndfkekihacdaaDoorW.PrintWords Go.Proofs.YtfndfkekihacdaaDoorW.PrintLast
/-- THE PURE STATEMENT of sumpterlaw07_PathParts. -/
def sumpterlaw07_PathParts.Pure2 : Prop := ∀ (x0 : ByteArray) (x1 : List ByteArray), x0.size ≤ 140737488351232 → (x1.length ≤ 9223372036854775807 ∧ ∀ x ∈ x1, (fun x => x.size ≤ 9223372036854775807) x) → ∃ k, sumpterlaw07_PathParts.f k x0 x1 = some true
end Go.Proofs.YtfndfkekihacdaaDoor.QPathParts
