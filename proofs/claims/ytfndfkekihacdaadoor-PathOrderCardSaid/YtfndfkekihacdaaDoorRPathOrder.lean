/- What the statement PathOrder asks of plain Lean values, and how its arguments are read. No condition. -/
import Derived.Test.YtfndfkekihacdaaDoorQPathOrderx2
import Derived.Test.YtfndfkekihacdaaDoorOpens
set_option linter.unusedVariables false
namespace Go.Proofs.YtfndfkekihacdaaDoor.QPathOrder
open Go.RowKit Go.Proofs.YtfndfkekihacdaaDoor.Opens Go.Proofs.YtfndfkekihacdaaDoorW.PrintWords Go.Proofs.YtfndfkekihacdaaDoorW.PrintLast
/-- THE PURE STATEMENT of sumpterlaw07_PathOrder. -/
def sumpterlaw07_PathOrder.Pure2 : Prop := ∀ (x0 : ByteArray) (x1 : ByteArray) (x2 : ByteArray), x0.size ≤ 140737488351232 → x1.size ≤ 140737488351232 → x2.size ≤ 140737488351232 → ∃ k, sumpterlaw07_PathOrder.f k x0 x1 x2 = some true
end Go.Proofs.YtfndfkekihacdaaDoor.QPathOrder
