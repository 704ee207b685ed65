/- What is handed in to the laws of chapter 10. -/
import Derived.Test.YtgefohjickhldaaFwIn
import Derived.Test.YtgefohjickhldaaF10a
namespace Go.Proofs.Ytgefohjickhldaa.D
open Go.Fw Go.RowKit

theorem tInt : (E.types 3).map TI.desc = some (.int .i64) := by kernel_rfl
theorem agg3 : (E.types 3).map (fun i => aggD i.desc) = some false := by kernel_rfl
theorem argInt {m : Nat} {av : Value} (h : ShapeV E m 3 av) : ∃ n, av = .int .i64 n := by
  obtain ⟨n, hn, _⟩ := (h.toOne agg3).int tInt
  exact ⟨n, by simpa using hn⟩
theorem tStr : (E.types 9).map TI.desc = some .string := by kernel_rfl
theorem agg9 : (E.types 9).map (fun i => aggD i.desc) = some false := by kernel_rfl
theorem argStr {m : Nat} {av : Value} (h : ShapeV E m 9 av) : ∃ b, b.size ≤ 140737488351232 ∧ av = .string b := by
  obtain ⟨b, hb, hs⟩ := (h.toOne agg9).string tStr
  have : reachBytes = 140737488351232 := by decide
  exact ⟨b, by omega, by simpa using hb⟩
theorem size1 (t : TypeId) (tf : TI) (h : (E.types t).map TI.size = some 1) (ht : E.types t = some tf) : tf.size = 1 := by rw [ht] at h; exact Option.some.inj h
theorem fields23 : fieldsOf E 23 = some (5, [(3, 0), (3, 1), (3, 2), (3, 3), (9, 4)]) := by kernel_rfl
theorem agg23 : (E.types 23).map (fun i => aggD i.desc) = some true := by kernel_rfl
theorem list23 {l : List Value} (h : l.length = 5) : ∃ a0 a1 a2 a3 a4, l = [a0, a1, a2, a3, a4] := by
  match l, h with
  | [a0, a1, a2, a3, a4], _ => exact ⟨a0, a1, a2, a3, a4, rfl⟩
theorem argCase {m : Nat} {av : Value} (h : ShapeV E m 23 av) : ∃ n0 n1 n2 n3 s4, s4.size ≤ 140737488351232 ∧ av = .agg #[.int .i64 n0, .int .i64 n1, .int .i64 n2, .int .i64 n3, .string s4] := by
  obtain ⟨cs, rfl, hs⟩ := h.toAgg agg23
  obtain ⟨hl, hf⟩ := hs.struct fields23 (by simp)
  obtain ⟨a0, a1, a2, a3, a4, rfl⟩ := list23 hl
  have fld : ∀ (i : Nat) (t : TypeId), ([(3, 0), (3, 1), (3, 2), (3, 3), (9, 4)] : List (TypeId × Nat))[i]? = some (t, i) → (E.types t).map TI.size = some 1 → Shape E (m - 1) t (([a0, a1, a2, a3, a4].drop i).take 1) := fun i t hi hs => by
    obtain ⟨tf, h1, h2⟩ := hf i (t, i) hi
    dsimp only at h1 h2
    have e := size1 t tf hs h1
    rw [e] at h2
    exact h2
  have s3_ : (E.types 3).map TI.size = some 1 := by kernel_rfl
  have s9_ : (E.types 9).map TI.size = some 1 := by kernel_rfl
  obtain ⟨n0, e0, _⟩ := (fld 0 3 rfl s3_).int tInt
  obtain ⟨n1, e1, _⟩ := (fld 1 3 rfl s3_).int tInt
  obtain ⟨n2, e2, _⟩ := (fld 2 3 rfl s3_).int tInt
  obtain ⟨n3, e3, _⟩ := (fld 3 3 rfl s3_).int tInt
  obtain ⟨s4, e4, z4⟩ := (fld 4 9 rfl s9_).string tStr
  simp only [List.drop_zero, List.drop_succ_cons, List.take_succ_cons, List.take_zero, List.cons.injEq, and_true] at e0 e1 e2 e3 e4
  subst e0 e1 e2 e3 e4
  have hr : reachBytes = 140737488351232 := by decide
  exact ⟨n0, n1, n2, n3, s4, by omega, rfl⟩
theorem fields61 : fieldsOf E 61 = some (6, [(3, 0), (3, 1), (3, 2), (3, 3), (3, 4), (9, 5)]) := by kernel_rfl
theorem agg61 : (E.types 61).map (fun i => aggD i.desc) = some true := by kernel_rfl
theorem list61 {l : List Value} (h : l.length = 6) : ∃ a0 a1 a2 a3 a4 a5, l = [a0, a1, a2, a3, a4, a5] := by
  match l, h with
  | [a0, a1, a2, a3, a4, a5], _ => exact ⟨a0, a1, a2, a3, a4, a5, rfl⟩
theorem argEvent {m : Nat} {av : Value} (h : ShapeV E m 61 av) : ∃ n0 n1 n2 n3 n4 s5, s5.size ≤ 140737488351232 ∧ av = .agg #[.int .i64 n0, .int .i64 n1, .int .i64 n2, .int .i64 n3, .int .i64 n4, .string s5] := by
  obtain ⟨cs, rfl, hs⟩ := h.toAgg agg61
  obtain ⟨hl, hf⟩ := hs.struct fields61 (by simp)
  obtain ⟨a0, a1, a2, a3, a4, a5, rfl⟩ := list61 hl
  have fld : ∀ (i : Nat) (t : TypeId), ([(3, 0), (3, 1), (3, 2), (3, 3), (3, 4), (9, 5)] : List (TypeId × Nat))[i]? = some (t, i) → (E.types t).map TI.size = some 1 → Shape E (m - 1) t (([a0, a1, a2, a3, a4, a5].drop i).take 1) := fun i t hi hs => by
    obtain ⟨tf, h1, h2⟩ := hf i (t, i) hi
    dsimp only at h1 h2
    have e := size1 t tf hs h1
    rw [e] at h2
    exact h2
  have s3_ : (E.types 3).map TI.size = some 1 := by kernel_rfl
  have s9_ : (E.types 9).map TI.size = some 1 := by kernel_rfl
  obtain ⟨n0, e0, _⟩ := (fld 0 3 rfl s3_).int tInt
  obtain ⟨n1, e1, _⟩ := (fld 1 3 rfl s3_).int tInt
  obtain ⟨n2, e2, _⟩ := (fld 2 3 rfl s3_).int tInt
  obtain ⟨n3, e3, _⟩ := (fld 3 3 rfl s3_).int tInt
  obtain ⟨n4, e4, _⟩ := (fld 4 3 rfl s3_).int tInt
  obtain ⟨s5, e5, z5⟩ := (fld 5 9 rfl s9_).string tStr
  simp only [List.drop_zero, List.drop_succ_cons, List.take_succ_cons, List.take_zero, List.cons.injEq, and_true] at e0 e1 e2 e3 e4 e5
  subst e0 e1 e2 e3 e4 e5
  have hr : reachBytes = 140737488351232 := by decide
  exact ⟨n0, n1, n2, n3, n4, s5, by omega, rfl⟩
end Go.Proofs.Ytgefohjickhldaa.D
