/- What is handed in to the law RelayPlays. -/
import Derived.Test.YtdkmdpklojeepaaL09n
import Derived.Test.YtdkmdpklojeepaaQ09h
namespace Go.Proofs.Ytdkmdpklojeepaa.D
open Go.Fw Go.RowKit

theorem tStr : (E.types 9).map TI.desc = some .string := by kernel_rfl
theorem tBool : (E.types 4).map TI.desc = some .bool := by kernel_rfl
theorem size1 (t : TypeId) (tf : TI) (h : (E.types t).map TI.size = some 1) (ht : E.types t = some tf) : tf.size = 1 := by rw [ht] at h; exact Option.some.inj h
theorem fields36 : fieldsOf E 36 = some (4, [(4, 0), (3, 1), (3, 2), (3, 3)]) := by kernel_rfl
theorem fields56 : fieldsOf E 56 = some (2, [(3, 0), (9, 1)]) := by kernel_rfl
theorem agg31 : (E.types 31).map (fun i => aggD i.desc) = some false := by kernel_rfl
theorem agg50 : (E.types 50).map (fun i => aggD i.desc) = some false := by kernel_rfl
theorem tFates : (E.types 31).map TI.desc = some (.slice 36) := by kernel_rfl
theorem tDeeds : (E.types 50).map TI.desc = some (.slice 56) := by kernel_rfl
theorem z36 : (E.types 36).map (fun i => (i.size, i.bytes)) = some (4, 32) := by kernel_rfl
theorem z56 : (E.types 56).map (fun i => (i.size, i.bytes)) = some (2, 24) := by kernel_rfl
theorem z3 : (E.types 3).map TI.size = some 1 := by kernel_rfl
theorem z4 : (E.types 4).map TI.size = some 1 := by kernel_rfl
theorem z9 : (E.types 9).map TI.size = some 1 := by kernel_rfl
theorem fld {m : Nat} {t : TypeId} {size : Nat} {l : List (TypeId × Nat)} {cs : List Value} (h : Shape E m t cs) (ht : fieldsOf E t = some (size, l)) (hl : l ≠ []) (i : Nat) (u : TypeId) (o : Nat) (hi : l[i]? = some (u, o)) (hk : (E.types u).map TI.size = some 1) : Shape E (m - 1) u ((cs.drop o).take 1) := by
  obtain ⟨_, hf⟩ := h.struct ht hl
  obtain ⟨tf, h1, h2⟩ := hf i (u, o) hi
  dsimp only at h1 h2
  rw [size1 u tf hk h1] at h2
  exact h2
theorem shapeFt {m : Nat} {cs : List Value} (hs : Shape E m 36 cs) : ∃ f : Ft, cs = fce f := by
  obtain ⟨hl, _⟩ := hs.struct fields36 (by simp)
  match cs, hl with
  | [a0, a1, a2, a3], _ =>
    obtain ⟨b0, e0⟩ := (fld hs fields36 (by simp) 0 4 0 rfl z4).bool tBool
    obtain ⟨n1, e1, _⟩ := (fld hs fields36 (by simp) 1 3 1 rfl z3).int tInt
    obtain ⟨n2, e2, _⟩ := (fld hs fields36 (by simp) 2 3 2 rfl z3).int tInt
    obtain ⟨n3, e3, _⟩ := (fld hs fields36 (by simp) 3 3 3 rfl z3).int tInt
    simp at e0 e1 e2 e3
    subst e0 e1 e2 e3
    exact ⟨⟨b0, n1, n2, n3⟩, rfl⟩
theorem shapeDd {m : Nat} {cs : List Value} (hs : Shape E m 56 cs) : ∃ z : Dd, cs = dce z := by
  obtain ⟨hl, _⟩ := hs.struct fields56 (by simp)
  match cs, hl with
  | [a0, a1], _ =>
    obtain ⟨n0, e0, _⟩ := (fld hs fields56 (by simp) 0 3 0 rfl z3).int tInt
    obtain ⟨s1, e1, _⟩ := (fld hs fields56 (by simp) 1 9 1 rfl z9).string tStr
    simp at e0 e1
    subst e0 e1
    exact ⟨⟨n0, s1⟩, rfl⟩
theorem argFates {m : Nat} {av : Value} (h : ShapeV E m 31 av) : ∃ x l, l.length ≤ 17592186044416 ∧ av = FS 36 l.length x (fts l).toArray := by
  obtain ⟨n, x, cells, e0, hx, hb, hs, hr⟩ := (h.toOne agg31).slice tFates z36
  obtain ⟨l, h1, h2⟩ := rows_of (α := Ft) (Q := Shape E (m - 1) 36) fce 4 (fun _ => rfl) (fun l hl => shapeFt hl) n cells.toList (by rw [Array.length_toList]; exact hs) hr
  have e : cells = (fts l).toArray := Array.ext' h2
  have hrb : reachBytes = 140737488351232 := by decide
  refine ⟨x, l, by omega, ?_⟩
  rw [h1, ← e]
  simpa using e0
theorem argDeeds {m : Nat} {av : Value} (h : ShapeV E m 50 av) : ∃ x l, l.length ≤ 17592186044416 ∧ av = FS 56 l.length x (dcs l).toArray := by
  obtain ⟨n, x, cells, e0, hx, hb, hs, hr⟩ := (h.toOne agg50).slice tDeeds z56
  obtain ⟨l, h1, h2⟩ := rows_of (α := Dd) (Q := Shape E (m - 1) 56) dce 2 (fun _ => rfl) (fun l hl => shapeDd hl) n cells.toList (by rw [Array.length_toList]; exact hs) hr
  have e : cells = (dcs l).toArray := Array.ext' h2
  have hrb : reachBytes = 140737488351232 := by decide
  refine ⟨x, l, by omega, ?_⟩
  rw [h1, ← e]
  simpa using e0
end Go.Proofs.Ytdkmdpklojeepaa.D
