/- The examples of the chapter, by the machine of our own. -/
import Derived.Test.YthhlfddpacmhfaaFwMono
import Derived.Test.YthhlfddpacmhfaaFwSpoil
namespace Go.Proofs.Ythhlfddpacmhfaa.Fw1
open Go.Fw Go.RowKit

theorem sane0 : (acall E 60 7 [] Heap.none).map (·.1) = some (.bool true) := by kernel_rfl
end Go.Proofs.Ythhlfddpacmhfaa.Fw1
