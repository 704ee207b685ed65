/- What is handed in: a string, a number. -/
import Derived.Test.YthhlfddpacmhfaaFwIn
import Derived.Test.YthhlfddpacmhfaaB01a
namespace Go.Proofs.Ythhlfddpacmhfaa.D
open Go.Fw Go.RowKit

theorem tInt : (E.types 3).map TI.desc = some (.int .i64) := by kernel_rfl
theorem tStr : (E.types 9).map TI.desc = some .string := by kernel_rfl
theorem agg3 : (E.types 3).map (fun i => aggD i.desc) = some false := by kernel_rfl
theorem agg9 : (E.types 9).map (fun i => aggD i.desc) = some false := by kernel_rfl
theorem argInt {m : Nat} {av : Value} (h : ShapeV E m 3 av) : ∃ n, (-9223372036854775808 ≤ n ∧ n ≤ 9223372036854775807) ∧ av = .int .i64 n := by
  obtain ⟨n, hn, hr⟩ := (h.toOne agg3).int tInt
  have hr' : -9223372036854775808 ≤ n ∧ n ≤ 9223372036854775807 := by simpa [Lit.wf, IntKind.min, IntKind.max, IntKind.signed, IntKind.bits] using hr
  exact ⟨n, hr', by simpa using hn⟩
theorem argStr {m : Nat} {av : Value} (h : ShapeV E m 9 av) : ∃ b, b.size ≤ 140737488351232 ∧ av = .string b := by
  obtain ⟨b, hb, hs⟩ := (h.toOne agg9).string tStr
  have : reachBytes = 140737488351232 := by decide
  exact ⟨b, by omega, by simpa using hb⟩
end Go.Proofs.Ythhlfddpacmhfaa.D
