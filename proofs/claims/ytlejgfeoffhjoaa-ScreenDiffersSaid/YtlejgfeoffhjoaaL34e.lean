/- A display that is handed in, with its lengths. -/
import Derived.Test.YtlejgfeoffhjoaaL34in
import Derived.Test.YtlejgfeoffhjoaaF34b
namespace Go.Proofs.Ytlejgfeoffhjoaa.D
open Go.Fw Go.RowKit

theorem tStrsL : (E.types 22).map TI.desc = some (.slice 9) := by kernel_rfl
theorem tStrBL : (E.types 9).map (fun i => (i.size, i.bytes)) = some (1, 16) := by kernel_rfl
theorem flat_oneL {α : Type} (l : List α) (f : α → Value) : l.flatMap (fun z => [f z]) = l.map f := by
  induction l with
  | nil => rfl
  | cons a r ih => rw [List.flatMap_cons, ih]; rfl
theorem shapeStrsL {m : Nat} {cs : List Value} (h : Shape E m 22 cs) : ∃ x l, cs = [strs x l] ∧ (x = 2 → l = []) ∧ (∀ k, (rowAt l k).size ≤ 140737488351232) ∧ l.length ≤ 8796093022208 := by
  obtain ⟨n, x, cells, rfl, hx, hb, hs, hr⟩ := h.slice tStrsL tStrBL
  have hrb : reachBytes = 140737488351232 := by decide
  obtain ⟨l, h1, h2⟩ := rows_of (α := { b : ByteArray // b.size ≤ 140737488351232 }) (Q := Shape E (m - 1) 9) (fun z => [.string z.1]) 1 (fun _ => rfl) (fun l hl => by
    obtain ⟨z, hz, hs⟩ := Shape.string hl tStr
    exact ⟨⟨z, by omega⟩, hz⟩) n cells.toList (by rw [Array.length_toList]; exact hs) hr
  have e : cells = ((l.map Subtype.val).map Value.string).toArray := by
    apply Array.ext'
    rw [h2, List.map_map]
    exact flat_oneL l _
  subst h1
  refine ⟨x, l.map Subtype.val, by rw [e]; simp [strs], fun h2 => ?_, fun k => ?_, by rw [List.length_map]; omega⟩
  · rcases hx with h | h
    · omega
    · rw [List.eq_nil_of_length_eq_zero h.2]; rfl
  · rw [rowAt, List.getD_eq_getElem?_getD, List.getElem?_map]
    cases hk : l[k]? with
    | none => decide
    | some z => exact z.2
theorem fields24L : fieldsOf E 24 = some (4, [(22, 0), (22, 1), (3, 2), (3, 3)]) := by kernel_rfl
theorem agg24L : (E.types 24).map (fun i => aggD i.desc) = some true := by kernel_rfl
theorem list4L {l : List Value} (h : l.length = 4) : ∃ a0 a1 a2 a3, l = [a0, a1, a2, a3] := by
  match l, h with
  | [a0, a1, a2, a3], _ => exact ⟨a0, a1, a2, a3, rfl⟩
theorem argDispL {m : Nat} {av : Value} (h : ShapeV E m 24 av) : ∃ x y r s i j, (x = 2 → r = []) ∧ (y = 2 → s = []) ∧ (∀ k, (rowAt r k).size ≤ 140737488351232) ∧ (∀ k, (rowAt s k).size ≤ 140737488351232) ∧ (r.length ≤ 8796093022208 ∧ s.length ≤ 8796093022208) ∧ av = dv x y r s i j := by
  obtain ⟨cs, rfl, hs⟩ := h.toAgg agg24L
  obtain ⟨hl, hf⟩ := hs.struct fields24L (by simp)
  obtain ⟨a0, a1, a2, a3, rfl⟩ := list4L hl
  have fld : ∀ (i : Nat) (t : TypeId), ([(22, 0), (22, 1), (3, 2), (3, 3)] : List (TypeId × Nat))[i]? = some (t, i) → (E.types t).map TI.size = some 1 → Shape E (m - 1) t (([a0, a1, a2, a3].drop i).take 1) := fun i t hi hs => by
    obtain ⟨tf, h1, h2⟩ := hf i (t, i) hi
    dsimp only at h1 h2
    have e := size1 t tf hs h1
    rw [e] at h2
    exact h2
  have s22 : (E.types 22).map TI.size = some 1 := by kernel_rfl
  have s3 : (E.types 3).map TI.size = some 1 := by kernel_rfl
  obtain ⟨x, r, e0, k0, k1, kr⟩ := shapeStrsL (fld 0 22 rfl s22)
  obtain ⟨y, s, e1, k2, k3, ks⟩ := shapeStrsL (fld 1 22 rfl s22)
  obtain ⟨n2, e2, _⟩ := (fld 2 3 rfl s3).int tInt
  obtain ⟨n3, e3, _⟩ := (fld 3 3 rfl s3).int tInt
  simp only [List.drop_zero, List.drop_succ_cons, List.take_succ_cons, List.take_zero, List.cons.injEq, and_true] at e0 e1 e2 e3
  subst e0 e1 e2 e3
  exact ⟨x, y, r, s, n2, n3, k0, k2, k1, k3, ⟨kr, ks⟩, rfl⟩
end Go.Proofs.Ytlejgfeoffhjoaa.D
