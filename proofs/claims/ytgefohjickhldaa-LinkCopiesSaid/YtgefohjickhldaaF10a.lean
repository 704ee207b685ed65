/- The functions of chapter 10, first part; the example of the chapter. -/
import Derived.Test.YtgefohjickhldaaFwLem
import Derived.Test.YtgefohjickhldaaFwMono
import Derived.Test.YtgefohjickhldaaFwBytes
import Derived.Test.YtgefohjickhldaaProg
namespace Go.Proofs.Ytgefohjickhldaa.D
open Go.Fw Go.RowKit

abbrev vP (b o : Nat) : Value := .pointer (some ⟨b, o, none⟩)
abbrev vI (n : Int) : Value := .int .i64 n
abbrev vT : Value := .bool true
abbrev vF : Value := .bool false
abbrev vN : Value := .slice none 0 0
noncomputable def E : Env := envWith Try.prog [10, 11, 12, 13, 14, 15, 16, 32, 33, 34]
theorem okE : EnvOk E Try.prog := envOf_ok (by kernel_rfl) _
theorem sane12 : Fun E 12 [] (.bool true) := Fun.closed 200 (.bool true) (by kernel_rfl)
end Go.Proofs.Ytgefohjickhldaa.D
