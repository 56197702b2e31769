/- What the statement PathOrders asks of plain Lean values, and how its arguments are read. No condition. -/
import Derived.Test.YtfndfkekihacdaaDoorQPathOrdersx3
import Derived.Test.YtfndfkekihacdaaDoorOpens
set_option linter.unusedVariables false
namespace Go.Proofs.YtfndfkekihacdaaDoor.QPathOrders
open Go.RowKit Go.Proofs.YtfndfkekihacdaaDoor.Opens Go.Proofs.YtfndfkekihacdaaDoorW.PrintWords Go.Proofs.YtfndfkekihacdaaDoorW.PrintLast
/-- THE PURE STATEMENT of sumpterlaw07_PathOrders. -/
def sumpterlaw07_PathOrders.Pure2 : Prop := ∀ (x0 : ByteArray) (x1 : ByteArray), x0.size ≤ 140737488351232 → x1.size ≤ 140737488351232 → ∃ k, sumpterlaw07_PathOrders.f k x0 x1 = some true
end Go.Proofs.YtfndfkekihacdaaDoor.QPathOrders
