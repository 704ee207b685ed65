/- What is handed in to the law ScreenAgrees: rows of acts. -/
import Derived.Test.YtlejgfeoffhjoaaFwIn
import Derived.Test.YtlejgfeoffhjoaaF34s
import Derived.Test.YtlejgfeoffhjoaaW34g
namespace Go.Proofs.Ytlejgfeoffhjoaa.D
open Go.Fw Go.RowKit

theorem tInt : (E.types 3).map TI.desc = some (.int .i64) := by kernel_rfl
theorem agg3 : (E.types 3).map (fun i => aggD i.desc) = some false := by kernel_rfl
theorem argInt {m : Nat} {av : Value} (h : ShapeV E m 3 av) : ∃ n, av = .int .i64 n := by
  obtain ⟨n, hn, _⟩ := (h.toOne agg3).int tInt
  exact ⟨n, by simpa using hn⟩
theorem tStr : (E.types 9).map TI.desc = some .string := by kernel_rfl
theorem agg9 : (E.types 9).map (fun i => aggD i.desc) = some false := by kernel_rfl
theorem argStr {m : Nat} {av : Value} (h : ShapeV E m 9 av) : ∃ b, b.size ≤ 140737488351232 ∧ av = .string b := by
  obtain ⟨b, hb, hs⟩ := (h.toOne agg9).string tStr
  have : reachBytes = 140737488351232 := by decide
  exact ⟨b, by omega, by simpa using hb⟩
theorem size1 (t : TypeId) (tf : TI) (h : (E.types t).map TI.size = some 1) (ht : E.types t = some tf) : tf.size = 1 := by rw [ht] at h; exact Option.some.inj h
theorem fields26 : fieldsOf E 26 = some (5, [(3, 0), (3, 1), (3, 2), (3, 3), (9, 4)]) := by kernel_rfl
theorem agg26 : (E.types 26).map (fun i => aggD i.desc) = some true := by kernel_rfl
theorem list26 {l : List Value} (h : l.length = 5) : ∃ a0 a1 a2 a3 a4, l = [a0, a1, a2, a3, a4] := by
  match l, h with
  | [a0, a1, a2, a3, a4], _ => exact ⟨a0, a1, a2, a3, a4, rfl⟩
theorem argUp {m : Nat} {av : Value} (h : ShapeV E m 26 av) : ∃ n0 n1 n2 n3 s4, s4.size ≤ 140737488351232 ∧ av = .agg #[.int .i64 n0, .int .i64 n1, .int .i64 n2, .int .i64 n3, .string s4] := by
  obtain ⟨cs, rfl, hs⟩ := h.toAgg agg26
  obtain ⟨hl, hf⟩ := hs.struct fields26 (by simp)
  obtain ⟨a0, a1, a2, a3, a4, rfl⟩ := list26 hl
  have fld : ∀ (i : Nat) (t : TypeId), ([(3, 0), (3, 1), (3, 2), (3, 3), (9, 4)] : List (TypeId × Nat))[i]? = some (t, i) → (E.types t).map TI.size = some 1 → Shape E (m - 1) t (([a0, a1, a2, a3, a4].drop i).take 1) := fun i t hi hs => by
    obtain ⟨tf, h1, h2⟩ := hf i (t, i) hi
    dsimp only at h1 h2
    have e := size1 t tf hs h1
    rw [e] at h2
    exact h2
  have s3_ : (E.types 3).map TI.size = some 1 := by kernel_rfl
  have s9_ : (E.types 9).map TI.size = some 1 := by kernel_rfl
  obtain ⟨n0, e0, _⟩ := (fld 0 3 rfl s3_).int tInt
  obtain ⟨n1, e1, _⟩ := (fld 1 3 rfl s3_).int tInt
  obtain ⟨n2, e2, _⟩ := (fld 2 3 rfl s3_).int tInt
  obtain ⟨n3, e3, _⟩ := (fld 3 3 rfl s3_).int tInt
  obtain ⟨s4, e4, z4⟩ := (fld 4 9 rfl s9_).string tStr
  simp only [List.drop_zero, List.drop_succ_cons, List.take_succ_cons, List.take_zero, List.cons.injEq, and_true] at e0 e1 e2 e3 e4
  subst e0 e1 e2 e3 e4
  have hr : reachBytes = 140737488351232 := by decide
  exact ⟨n0, n1, n2, n3, s4, by omega, rfl⟩
open Go.Fw Go.RowKit

theorem fields52 : fieldsOf E 52 = some (7, [(3, 0), (3, 1), (26, 2)]) := by kernel_rfl
theorem agg47 : (E.types 47).map (fun i => aggD i.desc) = some false := by kernel_rfl
theorem tActs : (E.types 47).map TI.desc = some (.slice 52) := by kernel_rfl
theorem z52 : (E.types 52).map (fun i => (i.size, i.bytes)) = some (7, 64) := by kernel_rfl
theorem z3 : (E.types 3).map TI.size = some 1 := by kernel_rfl
theorem z9 : (E.types 9).map TI.size = some 1 := by kernel_rfl
theorem z26 : (E.types 26).map TI.size = some 5 := by kernel_rfl
theorem fld {m : Nat} {t : TypeId} {size : Nat} {l : List (TypeId × Nat)} {cs : List Value} (k : Nat) (h : Shape E m t cs) (ht : fieldsOf E t = some (size, l)) (hl : l ≠ []) (i : Nat) (u : TypeId) (o : Nat) (hi : l[i]? = some (u, o)) (hk : (E.types u).map TI.size = some k) : Shape E (m - 1) u ((cs.drop o).take k) := by
  obtain ⟨_, hf⟩ := h.struct ht hl
  obtain ⟨tf, h1, h2⟩ := hf i (u, o) hi
  dsimp only at h1 h2
  have e : tf.size = k := by
    rw [h1] at hk
    exact Option.some.inj hk
  rwa [e] at h2
theorem list7 {l : List Value} (h : l.length = 7) : ∃ a0 a1 a2 a3 a4 a5 a6, l = [a0, a1, a2, a3, a4, a5, a6] := by
  match l, h with
  | [a0, a1, a2, a3, a4, a5, a6], _ => exact ⟨a0, a1, a2, a3, a4, a5, a6, rfl⟩
theorem shapeAct {m : Nat} {cs : List Value} (hs : Shape E m 52 cs) : ∃ z : {z : Act // z.u.t.size ≤ 140737488351232}, cs = ac z.1 := by
  obtain ⟨hl, _⟩ := hs.struct fields52 (by simp)
  obtain ⟨a0, a1, a2, a3, a4, a5, a6, rfl⟩ := list7 hl
  obtain ⟨n0, e0, _⟩ := (fld 1 hs fields52 (by simp) 0 3 0 rfl z3).int tInt
  obtain ⟨n1, e1, _⟩ := (fld 1 hs fields52 (by simp) 1 3 1 rfl z3).int tInt
  have hu : Shape E (m - 1) 26 [a2, a3, a4, a5, a6] := fld 5 hs fields52 (by simp) 2 26 2 rfl z26
  obtain ⟨n2, e2, _⟩ := (fld 1 hu fields26 (by simp) 0 3 0 rfl z3).int tInt
  obtain ⟨n3, e3, _⟩ := (fld 1 hu fields26 (by simp) 1 3 1 rfl z3).int tInt
  obtain ⟨n4, e4, _⟩ := (fld 1 hu fields26 (by simp) 2 3 2 rfl z3).int tInt
  obtain ⟨n5, e5, _⟩ := (fld 1 hu fields26 (by simp) 3 3 3 rfl z3).int tInt
  obtain ⟨s6, e6, z6⟩ := (fld 1 hu fields26 (by simp) 4 9 4 rfl z9).string tStr
  simp only [List.drop_zero, List.drop_succ_cons, List.take_succ_cons, List.take_zero, List.cons.injEq, and_true] at e0 e1 e2 e3 e4 e5 e6
  subst e0 e1 e2 e3 e4 e5 e6
  have hr : reachBytes = 140737488351232 := by decide
  exact ⟨⟨⟨n0, n1, ⟨n2, n3, n4, n5, s6⟩⟩, by dsimp only; omega⟩, rfl⟩
theorem argActs {m : Nat} {av : Value} (h : ShapeV E m 47 av) : ∃ x Z, Z.length ≤ 1000000000000000 ∧ (∀ z ∈ Z, z.u.t.size ≤ 140737488351232) ∧ av = FS 52 Z.length x (acs Z).toArray := by
  obtain ⟨n, x, cells, e0, hx, hb, hs, hr⟩ := (h.toOne agg47).slice tActs z52
  obtain ⟨l, h1, h2⟩ := rows_of (α := {z : Act // z.u.t.size ≤ 140737488351232}) (Q := Shape E (m - 1) 52) (fun z => ac z.1) 7 (fun _ => rfl) (fun l hl => shapeAct hl) n cells.toList (by rw [Array.length_toList]; exact hs) hr
  have h3 : cells.toList = acs (l.map (·.1)) := by
    rw [h2, acs, List.flatMap_map]
  have e : cells = (acs (l.map (·.1))).toArray := Array.ext' h3
  have hrb : reachBytes = 140737488351232 := by decide
  refine ⟨x, l.map (·.1), by rw [List.length_map]; omega, fun z hz => ?_, ?_⟩
  · obtain ⟨y, _, rfl⟩ := List.mem_map.1 hz
    exact y.2
  · rw [List.length_map, h1, ← e]
    simpa using e0
end Go.Proofs.Ytlejgfeoffhjoaa.D
