/- The functions of chapter 9, first part; the example of the chapter. -/
import Derived.Test.YtdkmdpklojeepaaFwLem
import Derived.Test.YtdkmdpklojeepaaFwMono
import Derived.Test.YtdkmdpklojeepaaProg
namespace Go.Proofs.Ytdkmdpklojeepaa.D
open Go.Fw Go.RowKit

noncomputable def E : Env := envWith Try.prog [8, 41, 17, 9, 54, 59, 61, 39, 12, 16, 11, 15, 19, 20, 21, 22, 44, 43]
theorem okE : EnvOk E Try.prog := envOf_ok (by kernel_rfl) _
theorem sane8 : Fun E 8 [] (.bool true) := Fun.closed 300 (.bool true) (by kernel_rfl)
end Go.Proofs.Ytdkmdpklojeepaa.D
