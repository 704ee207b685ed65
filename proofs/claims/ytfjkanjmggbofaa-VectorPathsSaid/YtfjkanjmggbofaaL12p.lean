/- What is handed in to VectorPaths. -/
import Derived.Test.YtfjkanjmggbofaaL12in
namespace Go.Proofs.Ytfjkanjmggbofaa.D
open Go.Fw Go.RowKit

theorem agg60 : (E.types 60).map (fun i => aggD i.desc) = some true := by kernel_rfl
theorem fields60 : fieldsOf E 60 = some (5, [(24, 0), (25, 2), (3, 3), (3, 4)]) := by kernel_rfl
theorem argPath {m : Nat} {av : Value} (h : ShapeV E m 60 av) : ∃ N x ls xt T p q, ls.length * 24 ≤ 140737488351232 ∧ OkT xt T ∧ av = .agg #[.int .i64 N, lks x ls, tabF 45 47 xt T, .int .i64 p, .int .i64 q] := by
  obtain ⟨cs, rfl, hs⟩ := h.toAgg agg60
  obtain ⟨hl, _⟩ := hs.struct fields60 (by simp)
  match cs, hl with
  | [a, b, c, d, e], _ =>
    obtain ⟨N, x, ls, e0, hz⟩ := shapeNet (fld hs fields60 (by simp) 0 24 0 2 rfl (by kernel_rfl))
    obtain ⟨xt, T, e1, ok⟩ := shapeTab (fld hs fields60 (by simp) 1 25 2 1 rfl (by kernel_rfl))
    obtain ⟨p, e2, _⟩ := (fld hs fields60 (by simp) 2 3 3 1 rfl z3).int tInt
    obtain ⟨q, e3, _⟩ := (fld hs fields60 (by simp) 3 3 4 1 rfl z3).int tInt
    simp at e0 e1 e2 e3
    obtain ⟨rfl, rfl⟩ := e0
    subst e1 e2 e3
    exact ⟨N, x, ls, xt, T, p, q, hz, ok, rfl⟩
end Go.Proofs.Ytfjkanjmggbofaa.D
