/- What is handed in to the laws of chapter 9. -/
import Derived.Test.YtdkmdpklojeepaaFwIn
import Derived.Test.YtdkmdpklojeepaaF09a
namespace Go.Proofs.Ytdkmdpklojeepaa.D
open Go.Fw Go.RowKit

theorem tStr : (E.types 9).map TI.desc = some .string := by kernel_rfl
theorem agg9 : (E.types 9).map (fun i => aggD i.desc) = some false := by kernel_rfl
theorem argStr {m : Nat} {av : Value} (h : ShapeV E m 9 av) : ∃ b, b.size ≤ 140737488351232 ∧ av = .string b := by
  obtain ⟨b, hb, hs⟩ := (h.toOne agg9).string tStr
  have : reachBytes = 140737488351232 := by decide
  exact ⟨b, by omega, by simpa using hb⟩
theorem size1 (t : TypeId) (tf : TI) (h : (E.types t).map TI.size = some 1) (ht : E.types t = some tf) : tf.size = 1 := by rw [ht] at h; exact Option.some.inj h
end Go.Proofs.Ytdkmdpklojeepaa.D
