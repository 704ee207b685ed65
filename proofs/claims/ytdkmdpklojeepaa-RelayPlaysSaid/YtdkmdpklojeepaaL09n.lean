/- Numbers that are handed in. -/
import Derived.Test.YtdkmdpklojeepaaFwIn
import Derived.Test.YtdkmdpklojeepaaF09a
namespace Go.Proofs.Ytdkmdpklojeepaa.D
open Go.Fw Go.RowKit

theorem tInt : (E.types 3).map TI.desc = some (.int .i64) := by kernel_rfl
theorem agg3 : (E.types 3).map (fun i => aggD i.desc) = some false := by kernel_rfl
theorem argInt {m : Nat} {av : Value} (h : ShapeV E m 3 av) : ∃ n : Int, True ∧ av = .int .i64 n := by
  obtain ⟨n, hn, _⟩ := (h.toOne agg3).int tInt
  exact ⟨n, trivial, by simpa using hn⟩
end Go.Proofs.Ytdkmdpklojeepaa.D
