/- A datagram that is handed in. -/
import Derived.Test.YtpkkcpglbjbgfaaFwIn
import Derived.Test.YtpkkcpglbjbgfaaF14d
namespace Go.Proofs.Ytpkkcpglbjbgfaa.D
open Go.Fw Go.RowKit

theorem tInt : (E.types 3).map TI.desc = some (.int .i64) := by kernel_rfl
theorem tBool : (E.types 4).map TI.desc = some .bool := by kernel_rfl
theorem tStr : (E.types 9).map TI.desc = some .string := by kernel_rfl
theorem tInts : (E.types 22).map TI.desc = some (.slice 3) := by kernel_rfl
theorem tIntB : (E.types 3).map (fun i => (i.size, i.bytes)) = some (1, 8) := by kernel_rfl
theorem size1 (t : TypeId) (tf : TI) (h : (E.types t).map TI.size = some 1) (ht : E.types t = some tf) : tf.size = 1 := by rw [ht] at h; exact Option.some.inj h
theorem flat_one {α : Type} (l : List α) (f : α → Value) : l.flatMap (fun z => [f z]) = l.map f := by
  induction l with
  | nil => rfl
  | cons a r ih => rw [List.flatMap_cons, ih]; rfl
theorem shapeInts {m : Nat} {cs : List Value} (h : Shape E m 22 cs) : ∃ x l, cs = [sl x l] ∧ (x = 2 → l = []) ∧ l.length ≤ 17592186044416 := by
  obtain ⟨n, x, cells, rfl, hx, hb, hs, hr⟩ := h.slice tInts tIntB
  obtain ⟨l, h1, h2⟩ := rows_of (α := Int) (Q := Shape E (m - 1) 3) (fun z => [.int .i64 z]) 1 (fun _ => rfl) (fun l hl => by
    obtain ⟨z, hz, _⟩ := Shape.int hl tInt
    exact ⟨z, hz⟩) n cells.toList (by rw [Array.length_toList]; exact hs) hr
  have e : cells = (l.map fun n => Value.int .i64 n).toArray := by
    apply Array.ext'
    rw [h2]
    exact flat_one l _
  subst h1
  refine ⟨x, l, by rw [e]; rfl, fun h2 => ?_, ?_⟩
  · rcases hx with h | h
    · omega
    · exact List.eq_nil_of_length_eq_zero h.2
  · have : reachBytes = 140737488351232 := by decide
    omega
theorem fields24 : fieldsOf E 24 = some (11, [(22, 0), (22, 1), (3, 2), (3, 3), (3, 4), (3, 5), (3, 6), (4, 7), (4, 8), (4, 9), (9, 10)]) := by kernel_rfl

theorem list11 {l : List Value} (h : l.length = 11) : ∃ a0 a1 a2 a3 a4 a5 a6 a7 a8 a9 a10, l = [a0, a1, a2, a3, a4, a5, a6, a7, a8, a9, a10] := by
  match l, h with
  | [a0, a1, a2, a3, a4, a5, a6, a7, a8, a9, a10], _ => exact ⟨a0, a1, a2, a3, a4, a5, a6, a7, a8, a9, a10, rfl⟩

theorem shapeGr {m : Nat} {cs : List Value} (h : Shape E m 24 cs) : ∃ g, OkGr g ∧ cs = gc g := by
  obtain ⟨hl, hf⟩ := h.struct fields24 (by simp)
  obtain ⟨a0, a1, a2, a3, a4, a5, a6, a7, a8, a9, a10, rfl⟩ := list11 hl
  have fld : ∀ (i : Nat) (t : TypeId), ([(22, 0), (22, 1), (3, 2), (3, 3), (3, 4), (3, 5), (3, 6), (4, 7), (4, 8), (4, 9), (9, 10)] : List (TypeId × Nat))[i]? = some (t, i) → (E.types t).map TI.size = some 1 → Shape E (m - 1) t (([a0, a1, a2, a3, a4, a5, a6, a7, a8, a9, a10].drop i).take 1) := fun i t hi hs => by
    obtain ⟨tf, h1, h2⟩ := hf i (t, i) hi
    dsimp only at h1 h2
    have e := size1 t tf hs h1
    rw [e] at h2
    exact h2
  have s22 : (E.types 22).map TI.size = some 1 := by kernel_rfl
  have s3 : (E.types 3).map TI.size = some 1 := by kernel_rfl
  have s4 : (E.types 4).map TI.size = some 1 := by kernel_rfl
  have s9 : (E.types 9).map TI.size = some 1 := by kernel_rfl
  obtain ⟨fx, fr, e0, k0, k1⟩ := shapeInts (fld 0 22 rfl s22)
  obtain ⟨tx, to, e1, k2, k3⟩ := shapeInts (fld 1 22 rfl s22)
  obtain ⟨n2, e2, _⟩ := (fld 2 3 rfl s3).int tInt
  obtain ⟨n3, e3, _⟩ := (fld 3 3 rfl s3).int tInt
  obtain ⟨n4, e4, _⟩ := (fld 4 3 rfl s3).int tInt
  obtain ⟨n5, e5, _⟩ := (fld 5 3 rfl s3).int tInt
  obtain ⟨n6, e6, _⟩ := (fld 6 3 rfl s3).int tInt
  obtain ⟨b7, e7⟩ := (fld 7 4 rfl s4).bool tBool
  obtain ⟨b8, e8⟩ := (fld 8 4 rfl s4).bool tBool
  obtain ⟨b9, e9⟩ := (fld 9 4 rfl s4).bool tBool
  obtain ⟨s, e10, _⟩ := (fld 10 9 rfl s9).string tStr
  simp only [List.drop_zero, List.drop_succ_cons, List.take_succ_cons, List.take_zero, List.cons.injEq, and_true] at e0 e1 e2 e3 e4 e5 e6 e7 e8 e9 e10
  subst e0 e1 e2 e3 e4 e5 e6 e7 e8 e9 e10
  exact ⟨⟨fx, fr, tx, to, n2, n3, n4, n5, n6, b7, b8, b9, s⟩, ⟨k0, k2, k1, k3⟩, rfl⟩
theorem agg24 : (E.types 24).map (fun i => aggD i.desc) = some true := by kernel_rfl
theorem agg3 : (E.types 3).map (fun i => aggD i.desc) = some false := by kernel_rfl
theorem argGr {m : Nat} {av : Value} (h : ShapeV E m 24 av) : ∃ g, OkGr g ∧ av = gv g := by
  obtain ⟨cs, rfl, hs⟩ := h.toAgg agg24
  obtain ⟨g, ok, rfl⟩ := shapeGr hs
  exact ⟨g, ok, rfl⟩
theorem argInt {m : Nat} {av : Value} (h : ShapeV E m 3 av) : ∃ n, av = .int .i64 n := by
  obtain ⟨n, hn, _⟩ := (h.toOne agg3).int tInt
  exact ⟨n, by simpa using hn⟩
theorem agg9 : (E.types 9).map (fun i => aggD i.desc) = some false := by kernel_rfl
theorem argStr {m : Nat} {av : Value} (h : ShapeV E m 9 av) : ∃ b, b.size ≤ 140737488351232 ∧ av = .string b := by
  obtain ⟨b, hb, hs⟩ := (h.toOne agg9).string tStr
  have : reachBytes = 140737488351232 := by decide
  exact ⟨b, by omega, by simpa using hb⟩
theorem agg22 : (E.types 22).map (fun i => aggD i.desc) = some false := by kernel_rfl
theorem argInts {m : Nat} {av : Value} (h : ShapeV E m 22 av) : ∃ x l, (x = 2 → l = []) ∧ l.length ≤ 17592186044416 ∧ av = sl x l := by
  obtain ⟨x, l, h1, h2, h3⟩ := shapeInts (h.toOne agg22)
  exact ⟨x, l, h2, h3, by simpa using h1⟩
end Go.Proofs.Ytpkkcpglbjbgfaa.D
