/- What is handed in to VectorCuts: a net, with what is known of a nil row. -/
import Derived.Test.YtfjkanjmggbofaaL12in
import Derived.Test.YtfjkanjmggbofaaV12kz
namespace Go.Proofs.Ytfjkanjmggbofaa.D
open Go.Fw Go.RowKit

theorem shapeLinks2 {m : Nat} {cs : List Value} (h : Shape E m 22 cs) : ∃ x ls, cs = [lks x ls] ∧ ls.length * 24 ≤ 140737488351232 ∧ (x = 0 ∨ (x = 2 ∧ ls = [])) := by
  obtain ⟨n, x, cells, rfl, hx, hb, hs, hr⟩ := h.slice tLinks z48
  obtain ⟨ls, h1, h2⟩ := rows_of (α := Lk) (Q := Shape E (m - 1) 48) lc 3 (fun _ => rfl) (fun l hl => shapeLk hl) n cells.toList (by rw [Array.length_toList]; exact hs) hr
  have e : cells = (lcs ls).toArray := Array.ext' h2
  have hrb : reachBytes = 140737488351232 := by decide
  refine ⟨x, ls, by rw [e, ← h1]; rfl, by omega, ?_⟩
  rcases hx with h | ⟨h, h0⟩
  · exact .inl h
  · exact .inr ⟨h, List.eq_nil_of_length_eq_zero (show ls.length = 0 by omega)⟩
theorem shapeNet2 {m : Nat} {cs : List Value} (h : Shape E m 24 cs) : ∃ N x ls, cs = [.int .i64 N, lks x ls] ∧ ls.length * 24 ≤ 140737488351232 ∧ (x = 0 ∨ (x = 2 ∧ ls = [])) := by
  obtain ⟨hl, _⟩ := h.struct fields24 (by simp)
  match cs, hl with
  | [a, b], _ =>
    obtain ⟨N, e0, _⟩ := (fld h fields24 (by simp) 0 3 0 1 rfl z3).int tInt
    obtain ⟨x, ls, e1, hz, hx⟩ := shapeLinks2 (fld h fields24 (by simp) 1 22 1 1 rfl (by kernel_rfl))
    simp at e0 e1
    subst e0 e1
    exact ⟨N, x, ls, rfl, hz, hx⟩
theorem argNet2 {m : Nat} {av : Value} (h : ShapeV E m 24 av) : ∃ N x ls, ls.length * 24 ≤ 140737488351232 ∧ (x = 0 ∨ (x = 2 ∧ ls = [])) ∧ av = netV N x ls := by
  obtain ⟨cs, rfl, hs⟩ := h.toAgg agg24
  obtain ⟨N, x, ls, rfl, hz, hx⟩ := shapeNet2 hs
  exact ⟨N, x, ls, hz, hx, rfl⟩
theorem law11 (N : Int) (x : Nat) (ls : List Lk) (at' : Int) (poison : Bool) (hx : x = 0 ∨ (x = 2 ∧ ls = [])) (hy : ls.length * 24 ≤ 140737488351232) : Fun E 11 [netV N x ls, .int .i64 at', .bool poison] (.bool true) := by
  by_cases hb : (valid N ls && !((ls.length : Int) == 0)) = true
  · simp only [Bool.and_eq_true] at hb
    obtain ⟨n, rfl, g⟩ := good_of hb.1
    refine law11_ok n x ls at' poison hx hy g hb.1 ?_
    have := hb.2
    simp at this
    exact Nat.pos_of_ne_zero fun h => this (List.eq_nil_of_length_eq_zero h)
  · exact law11_bad N x ls at' poison hy (by simpa using hb)
end Go.Proofs.Ytfjkanjmggbofaa.D
