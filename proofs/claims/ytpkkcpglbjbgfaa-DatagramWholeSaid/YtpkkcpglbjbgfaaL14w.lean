/- What is handed in to DatagramWhole: a datagram, two sizes, an order. -/
import Derived.Test.YtpkkcpglbjbgfaaL14in
import Derived.Test.YtpkkcpglbjbgfaaH14j
namespace Go.Proofs.Ytpkkcpglbjbgfaa.D
open Go.Fw Go.RowKit

theorem shapeInts2 {m : Nat} {cs : List Value} (h : Shape E m 22 cs) : ∃ x l, cs = [sl x l] ∧ l.length * 8 ≤ 140737488351232 := by
  obtain ⟨n, x, cells, rfl, hx, hb, hs, hr⟩ := h.slice tInts tIntB
  obtain ⟨l, h1, h2⟩ := rows_of (α := Int) (Q := Shape E (m - 1) 3) (fun z => [.int .i64 z]) 1 (fun _ => rfl) (fun l hl => by
    obtain ⟨z, hz, _⟩ := Shape.int hl tInt
    exact ⟨z, hz⟩) n cells.toList (by rw [Array.length_toList]; exact hs) hr
  have e : cells = (l.map fun n => Value.int .i64 n).toArray := by
    apply Array.ext'
    rw [h2]
    exact flat_one l _
  subst h1
  have hrb : reachBytes = 140737488351232 := by decide
  exact ⟨x, l, by rw [e]; rfl, by omega⟩
theorem agg52 : (E.types 52).map (fun i => aggD i.desc) = some true := by kernel_rfl
theorem fields52 : fieldsOf E 52 = some (14, [(24, 0), (3, 11), (3, 12), (22, 13)]) := by kernel_rfl
theorem fldW {E : Env} {m : Nat} {t : TypeId} {size : Nat} {l : List (TypeId × Nat)} {cs : List Value} (h : Shape E m t cs) (ht : fieldsOf E t = some (size, l)) (hl : l ≠ []) (i : Nat) (u : TypeId) (o k : Nat) (hi : l[i]? = some (u, o)) (hk : (E.types u).map TI.size = some k) : Shape E (m - 1) u ((cs.drop o).take k) := by
  obtain ⟨_, hf⟩ := h.struct ht hl
  obtain ⟨tf, h1, h2⟩ := hf i (u, o) hi
  have e : tf.size = k := by
    rw [h1] at hk
    exact Option.some.inj hk
  rw [e] at h2
  exact h2
theorem argCase {m : Nat} {av : Value} (h : ShapeV E m 52 av) : ∃ g size less x od, OkGr g ∧ od.length * 8 ≤ 140737488351232 ∧ av = caseV g size less x od := by
  obtain ⟨cs, rfl, hs⟩ := h.toAgg agg52
  obtain ⟨hl, _⟩ := hs.struct fields52 (by simp)
  obtain ⟨g, ok, e0⟩ := shapeGr (fldW hs fields52 (by simp) 0 24 0 11 rfl (by kernel_rfl))
  obtain ⟨p, e1, _⟩ := (fldW hs fields52 (by simp) 1 3 11 1 rfl (by kernel_rfl)).int tInt
  obtain ⟨q, e2, _⟩ := (fldW hs fields52 (by simp) 2 3 12 1 rfl (by kernel_rfl)).int tInt
  obtain ⟨x, od, e3, ho⟩ := shapeInts2 (fldW hs fields52 (by simp) 3 22 13 1 rfl (by kernel_rfl))
  refine ⟨g, p, q, x, od, ok, ho, ?_⟩
  have e : cs = caseC g p q x od := by
    unfold caseC
    rw [← e0]
    have h1 : cs = cs.take 11 ++ ((cs.drop 11).take 1 ++ ((cs.drop 12).take 1 ++ (cs.drop 13).take 1)) := by
      match cs, hl with
      | [a0, a1, a2, a3, a4, a5, a6, a7, a8, a9, a10, a11, a12, a13], _ => rfl
    rw [e1, e2, e3] at h1
    rw [List.drop_zero]
    exact h1
  rw [e]
  rfl
end Go.Proofs.Ytpkkcpglbjbgfaa.D
