/- The functions of chapter 34. -/
import Derived.Test.YtlejgfeoffhjoaaFwLem
import Derived.Test.YtlejgfeoffhjoaaFwLib
import Derived.Test.YtlejgfeoffhjoaaProg
namespace Go.Proofs.Ytlejgfeoffhjoaa.D
open Go.Fw Go.RowKit

noncomputable def E : Env := envWith Try.prog [3, 4, 5, 9, 10, 11, 12, 13, 14, 15, 16, 17, 18, 19, 21, 39, 40, 41, 42, 43, 45, 46, 47, 48, 71, 76]
theorem okE : EnvOk E Try.prog := envOf_ok (by kernel_rfl) _
end Go.Proofs.Ytlejgfeoffhjoaa.D
