/- What is handed in to the laws of scripts. -/
import Derived.Test.YtgefohjickhldaaL10in
import Derived.Test.YtgefohjickhldaaN10a
namespace Go.Proofs.Ytgefohjickhldaa.D
open Go.Fw Go.RowKit

theorem tBool : (E.types 4).map TI.desc = some .bool := by kernel_rfl
theorem fields53 : fieldsOf E 53 = some (4, [(4, 0), (3, 1), (3, 2), (3, 3)]) := by kernel_rfl
theorem agg53 : (E.types 53).map (fun i => aggD i.desc) = some true := by kernel_rfl
theorem agg54 : (E.types 54).map (fun i => aggD i.desc) = some false := by kernel_rfl
theorem tEvs : (E.types 54).map TI.desc = some (.slice 61) := by kernel_rfl
theorem z61 : (E.types 61).map (fun i => (i.size, i.bytes)) = some (6, 56) := by kernel_rfl
theorem z3 : (E.types 3).map TI.size = some 1 := by kernel_rfl
theorem z4 : (E.types 4).map TI.size = some 1 := by kernel_rfl
theorem z9 : (E.types 9).map TI.size = some 1 := by kernel_rfl
theorem fld {m : Nat} {t : TypeId} {size : Nat} {l : List (TypeId × Nat)} {cs : List Value} (h : Shape E m t cs) (ht : fieldsOf E t = some (size, l)) (hl : l ≠ []) (i : Nat) (u : TypeId) (o : Nat) (hi : l[i]? = some (u, o)) (hk : (E.types u).map TI.size = some 1) : Shape E (m - 1) u ((cs.drop o).take 1) := by
  obtain ⟨_, hf⟩ := h.struct ht hl
  obtain ⟨tf, h1, h2⟩ := hf i (u, o) hi
  dsimp only at h1 h2
  rw [size1 u tf hk h1] at h2
  exact h2
theorem argSetup {m : Nat} {av : Value} (h : ShapeV E m 53 av) : ∃ f w wt t, av = uvv f w wt t := by
  obtain ⟨cs, rfl, hs⟩ := h.toAgg agg53
  obtain ⟨hl, _⟩ := hs.struct fields53 (by simp)
  match cs, hl with
  | [a, b, c, d], _ =>
    obtain ⟨f, e0⟩ := (fld hs fields53 (by simp) 0 4 0 rfl z4).bool tBool
    obtain ⟨w, e1, _⟩ := (fld hs fields53 (by simp) 1 3 1 rfl z3).int tInt
    obtain ⟨wt, e2, _⟩ := (fld hs fields53 (by simp) 2 3 2 rfl z3).int tInt
    obtain ⟨t, e3, _⟩ := (fld hs fields53 (by simp) 3 3 3 rfl z3).int tInt
    simp at e0 e1 e2 e3
    subst e0 e1 e2 e3
    exact ⟨f, w, wt, t, rfl⟩
theorem shapeEv {m : Nat} {cs : List Value} (hs : Shape E m 61 cs) : ∃ e : EvI, cs = eic e := by
  obtain ⟨hl, _⟩ := hs.struct fields61 (by simp)
  match cs, hl with
  | [a0, a1, a2, a3, a4, a5], _ =>
    obtain ⟨n0, e0, _⟩ := (fld hs fields61 (by simp) 0 3 0 rfl z3).int tInt
    obtain ⟨n1, e1, _⟩ := (fld hs fields61 (by simp) 1 3 1 rfl z3).int tInt
    obtain ⟨n2, e2, _⟩ := (fld hs fields61 (by simp) 2 3 2 rfl z3).int tInt
    obtain ⟨n3, e3, _⟩ := (fld hs fields61 (by simp) 3 3 3 rfl z3).int tInt
    obtain ⟨n4, e4, _⟩ := (fld hs fields61 (by simp) 4 3 4 rfl z3).int tInt
    obtain ⟨s5, e5, z5⟩ := (fld hs fields61 (by simp) 5 9 5 rfl z9).string tStr
    simp at e0 e1 e2 e3 e4 e5
    subst e0 e1 e2 e3 e4 e5
    have hr : reachBytes = 140737488351232 := by decide
    exact ⟨⟨n0, n1, n2, n3, n4, s5, by omega⟩, rfl⟩
theorem argEvs {m : Nat} {av : Value} (h : ShapeV E m 54 av) : ∃ x l, l.length * 56 ≤ 140737488351232 ∧ av = FS 61 l.length x (eics l).toArray := by
  obtain ⟨n, x, cells, e0, hx, hb, hs, hr⟩ := (h.toOne agg54).slice tEvs z61
  obtain ⟨l, h1, h2⟩ := rows_of (α := EvI) (Q := Shape E (m - 1) 61) eic 6 (fun _ => rfl) (fun l hl => shapeEv hl) n cells.toList (by rw [Array.length_toList]; exact hs) hr
  have e : cells = (eics l).toArray := Array.ext' h2
  have hrb : reachBytes = 140737488351232 := by decide
  refine ⟨x, l, by omega, ?_⟩
  rw [h1, ← e]
  simpa using e0
end Go.Proofs.Ytgefohjickhldaa.D
