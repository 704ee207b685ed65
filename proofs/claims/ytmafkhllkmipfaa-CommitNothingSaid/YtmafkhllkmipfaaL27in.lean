/- What is handed in: a number. -/
import Derived.Test.YtmafkhllkmipfaaFwIn
import Derived.Test.YtmafkhllkmipfaaF27a
namespace Go.Proofs.Ytmafkhllkmipfaa.D
open Go.Fw Go.RowKit

theorem tInt : (E.types 3).map TI.desc = some (.int .i64) := by kernel_rfl
theorem agg3 : (E.types 3).map (fun i => aggD i.desc) = some false := by kernel_rfl
theorem argInt {m : Nat} {av : Value} (h : ShapeV E m 3 av) : ∃ n, av = .int .i64 n := by
  obtain ⟨n, hn, _⟩ := (h.toOne agg3).int tInt
  exact ⟨n, by simpa using hn⟩
end Go.Proofs.Ytmafkhllkmipfaa.D
