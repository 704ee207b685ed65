/- Commit: the functions; the example. -/
import Derived.Test.YtmafkhllkmipfaaFwLem
import Derived.Test.YtmafkhllkmipfaaFwLib
import Derived.Test.YtmafkhllkmipfaaProg
namespace Go.Proofs.Ytmafkhllkmipfaa.D
open Go.Fw Go.RowKit

noncomputable def E : Env := envWith Try.prog [5, 11]
theorem okE : EnvOk E Try.prog := envOf_ok (by kernel_rfl) _
theorem sane11 : Fun E 11 [] (.bool true) := Fun.closed 300 (.bool true) (by kernel_rfl)
end Go.Proofs.Ytmafkhllkmipfaa.D
