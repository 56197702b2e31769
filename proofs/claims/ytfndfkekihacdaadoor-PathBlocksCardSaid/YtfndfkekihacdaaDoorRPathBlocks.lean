/- What the statement PathBlocks asks of plain Lean values, and how its arguments are read. No condition. -/
import Derived.Test.YtfndfkekihacdaaDoorQPathBlocksx2
import Derived.Test.YtfndfkekihacdaaDoorOpens
set_option linter.unusedVariables false
namespace Go.Proofs.YtfndfkekihacdaaDoor.QPathBlocks
open Go.RowKit Go.Proofs.YtfndfkekihacdaaDoor.Opens Go.Proofs.YtfndfkekihacdaaDoorW.PrintWords Go.Proofs.YtfndfkekihacdaaDoorW.PrintLast
/-- THE PURE STATEMENT of sumpterlaw07_PathBlocks. -/
def sumpterlaw07_PathBlocks.Pure2 : Prop := ∀ (x0 : ByteArray) (x1 : ByteArray) (x2 : ByteArray), x0.size ≤ 140737488351232 → x1.size ≤ 140737488351232 → x2.size ≤ 140737488351232 → ∃ k, sumpterlaw07_PathBlocks.f k x0 x1 x2 = some true
end Go.Proofs.YtfndfkekihacdaaDoor.QPathBlocks
