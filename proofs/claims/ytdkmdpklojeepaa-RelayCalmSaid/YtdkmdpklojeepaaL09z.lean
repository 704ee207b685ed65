/- What is handed in to the laws of chapter 9. -/
import Derived.Test.YtdkmdpklojeepaaFwIn
import Derived.Test.YtdkmdpklojeepaaF09e
namespace Go.Proofs.Ytdkmdpklojeepaa.D
open Go.Fw Go.RowKit

theorem tInt : (E.types 3).map TI.desc = some (.int .i64) := by kernel_rfl
theorem tInts : (E.types 22).map TI.desc = some (.slice 3) := by kernel_rfl
theorem tIntB : (E.types 3).map (fun i => (i.size, i.bytes)) = some (1, 8) := by kernel_rfl
theorem agg22 : (E.types 22).map (fun i => aggD i.desc) = some false := by kernel_rfl
theorem i64_wf {n : Int} (h : (Lit.int .i64 n).wf = true) : I64 n := by
  have h0 : (decide (IntKind.i64.min ≤ n) && decide (n ≤ IntKind.i64.max)) = true := h
  simp only [Bool.and_eq_true, decide_eq_true_eq] at h0
  have h1 : (IntKind.i64.min : Int) = -9223372036854775808 := by decide
  have h2 : (IntKind.i64.max : Int) = 9223372036854775807 := by decide
  unfold I64
  omega
theorem flat_vals : ∀ l : List {n : Int // I64 n}, l.flatMap (fun z => [Value.int .i64 z.1]) = (l.map (·.1)).map fun n => Value.int .i64 n
  | [] => rfl
  | a :: l => by rw [List.flatMap_cons, flat_vals l]; rfl
theorem argIntsR {m : Nat} {av : Value} (h : ShapeV E m 22 av) : ∃ x l, (∀ n ∈ l, I64 n) ∧ l.length ≤ 17592186044416 ∧ av = sl x l := by
  obtain ⟨n, x, cells, h1, hx, hb, hs, hr⟩ := (h.toOne agg22).slice tInts tIntB
  obtain ⟨l, h2, h3⟩ := rows_of (α := {n : Int // I64 n}) (Q := Shape E (m - 1) 3) (fun z => [.int .i64 z.1]) 1 (fun _ => rfl) (fun l hl => by
    obtain ⟨z, hz, hw⟩ := Shape.int hl tInt
    exact ⟨⟨z, i64_wf hw⟩, hz⟩) n cells.toList (by rw [Array.length_toList]; exact hs) hr
  refine ⟨x, l.map (·.1), fun n hn => ?_, ?_, ?_⟩
  · obtain ⟨z, _, rfl⟩ := List.mem_map.1 hn
    exact z.2
  · rw [List.length_map]
    have : reachBytes = 140737488351232 := by decide
    omega
  · rw [flat_vals] at h3
    have e : cells = ((l.map (·.1)).map fun n => Value.int .i64 n).toArray := Array.ext' h3
    have h4 : av = FS 3 n x cells := by simpa using h1
    rw [h4, e, ← h2]
    unfold sl
    rw [List.length_map]
open Go.Fw Go.RowKit
theorem agg3 : (E.types 3).map (fun i => aggD i.desc) = some false := by kernel_rfl
theorem argInt {m : Nat} {av : Value} (h : ShapeV E m 3 av) : ∃ n, I64 n ∧ av = .int .i64 n := by
  obtain ⟨n, hn, hw⟩ := (h.toOne agg3).int tInt
  exact ⟨n, i64_wf hw, by simpa using hn⟩
end Go.Proofs.Ytdkmdpklojeepaa.D
