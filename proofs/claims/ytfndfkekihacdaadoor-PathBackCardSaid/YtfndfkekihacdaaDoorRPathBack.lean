/- What the statement PathBack asks of plain Lean values, and how its arguments are read. No condition. -/
import Derived.Test.YtfndfkekihacdaaDoorQPathBackx3
import Derived.Test.YtfndfkekihacdaaDoorOpens
set_option linter.unusedVariables false
namespace Go.Proofs.YtfndfkekihacdaaDoor.QPathBack
open Go.RowKit Go.Proofs.YtfndfkekihacdaaDoor.Opens Go.Proofs.YtfndfkekihacdaaDoorW.PrintWords Go.Proofs.YtfndfkekihacdaaDoorW.PrintLast
/-- THE PURE STATEMENT of sumpterlaw07_PathBack. -/
def sumpterlaw07_PathBack.Pure2 : Prop := ∀ (x0 : ByteArray), x0.size ≤ 140737488351232 → ∃ k, sumpterlaw07_PathBack.f k x0 = some true
end Go.Proofs.YtfndfkekihacdaaDoor.QPathBack
