/- What is handed in to VectorLinks. -/
import Derived.Test.YtfjkanjmggbofaaFwIn
import Derived.Test.YtfjkanjmggbofaaV12np
import Derived.Test.YtfjkanjmggbofaaV12ky
namespace Go.Proofs.Ytfjkanjmggbofaa.D
open Go.Fw Go.RowKit

theorem tInt : (E.types 3).map TI.desc = some (.int .i64) := by kernel_rfl
theorem tBool : (E.types 4).map TI.desc = some .bool := by kernel_rfl
theorem tArr : (E.types 48).map TI.desc = some (.array 3 3) := by kernel_rfl
theorem tLinks : (E.types 22).map TI.desc = some (.slice 48) := by kernel_rfl
theorem tRow : (E.types 45).map TI.desc = some (.slice 47) := by kernel_rfl
theorem tTab : (E.types 25).map TI.desc = some (.slice 45) := by kernel_rfl
theorem z3 : (E.types 3).map TI.size = some 1 := by kernel_rfl
theorem z48 : (E.types 48).map (fun i => (i.size, i.bytes)) = some (3, 24) := by kernel_rfl
theorem z47 : (E.types 47).map (fun i => (i.size, i.bytes)) = some (2, 16) := by kernel_rfl
theorem z45 : (E.types 45).map (fun i => (i.size, i.bytes)) = some (1, 24) := by kernel_rfl
theorem agg3 : (E.types 3).map (fun i => aggD i.desc) = some false := by kernel_rfl
theorem agg4 : (E.types 4).map (fun i => aggD i.desc) = some false := by kernel_rfl
theorem agg24 : (E.types 24).map (fun i => aggD i.desc) = some true := by kernel_rfl
theorem agg25 : (E.types 25).map (fun i => aggD i.desc) = some false := by kernel_rfl
theorem agg27 : (E.types 27).map (fun i => aggD i.desc) = some true := by kernel_rfl
theorem fields24 : fieldsOf E 24 = some (2, [(3, 0), (22, 1)]) := by kernel_rfl
theorem fields47 : fieldsOf E 47 = some (2, [(3, 0), (3, 1)]) := by kernel_rfl
theorem fields27 : fieldsOf E 27 = some (5, [(24, 0), (25, 2), (4, 3), (3, 4)]) := by kernel_rfl
theorem sizeOf_ {E : Env} {t : TypeId} {k : Nat} {tf : TI} (h : (E.types t).map TI.size = some k) (ht : E.types t = some tf) : tf.size = k := by rw [ht] at h; exact Option.some.inj h
theorem fld {E : Env} {m : Nat} {t : TypeId} {size : Nat} {l : List (TypeId × Nat)} {cs : List Value} (h : Shape E m t cs) (ht : fieldsOf E t = some (size, l)) (hl : l ≠ []) (i : Nat) (u : TypeId) (o k : Nat) (hi : l[i]? = some (u, o)) (hk : (E.types u).map TI.size = some k) : Shape E (m - 1) u ((cs.drop o).take k) := by
  obtain ⟨_, hf⟩ := h.struct ht hl
  obtain ⟨tf, h1, h2⟩ := hf i (u, o) hi
  rw [sizeOf_ hk h1] at h2
  exact h2
theorem argInt {m : Nat} {av : Value} (h : ShapeV E m 3 av) : ∃ n, av = .int .i64 n := by
  obtain ⟨n, hn, _⟩ := (h.toOne agg3).int tInt
  exact ⟨n, by simpa using hn⟩
theorem argBool {m : Nat} {av : Value} (h : ShapeV E m 4 av) : ∃ b, av = .bool b := by
  obtain ⟨b, hb⟩ := (h.toOne agg4).bool tBool
  exact ⟨b, by simpa using hb⟩
theorem shapeLk {m : Nat} {cs : List Value} (h : Shape E m 48 cs) : ∃ l : Lk, cs = lc l := by
  obtain ⟨hl, hf⟩ := h.array tArr z3
  match cs, hl with
  | [a, b, c], _ =>
    obtain ⟨n0, e0, _⟩ := (hf 0 (by decide)).int tInt
    obtain ⟨n1, e1, _⟩ := (hf 1 (by decide)).int tInt
    obtain ⟨n2, e2, _⟩ := (hf 2 (by decide)).int tInt
    simp at e0 e1 e2
    subst e0 e1 e2
    exact ⟨(n0, n1, n2), rfl⟩
theorem shapeLinks {m : Nat} {cs : List Value} (h : Shape E m 22 cs) : ∃ x ls, cs = [lks x ls] ∧ ls.length * 24 ≤ 140737488351232 := by
  obtain ⟨n, x, cells, rfl, _, hb, hs, hr⟩ := h.slice tLinks z48
  obtain ⟨ls, h1, h2⟩ := rows_of (α := Lk) (Q := Shape E (m - 1) 48) lc 3 (fun _ => rfl) (fun l hl => shapeLk hl) n cells.toList (by rw [Array.length_toList]; exact hs) hr
  have e : cells = (lcs ls).toArray := Array.ext' h2
  have hrb : reachBytes = 140737488351232 := by decide
  exact ⟨x, ls, by rw [e, ← h1]; rfl, by omega⟩
theorem shapeNet {m : Nat} {cs : List Value} (h : Shape E m 24 cs) : ∃ N x ls, cs = [.int .i64 N, lks x ls] ∧ ls.length * 24 ≤ 140737488351232 := by
  obtain ⟨hl, _⟩ := h.struct fields24 (by simp)
  match cs, hl with
  | [a, b], _ =>
    obtain ⟨N, e0, _⟩ := (fld h fields24 (by simp) 0 3 0 1 rfl z3).int tInt
    obtain ⟨x, ls, e1, hz⟩ := shapeLinks (fld h fields24 (by simp) 1 22 1 1 rfl (by kernel_rfl))
    simp at e0 e1
    subst e0 e1
    exact ⟨N, x, ls, rfl, hz⟩
theorem shapeRt {m : Nat} {cs : List Value} (h : Shape E m 47 cs) : ∃ r : Rt, cs = rc r := by
  obtain ⟨hl, _⟩ := h.struct fields47 (by simp)
  match cs, hl with
  | [a, b], _ =>
    obtain ⟨n0, e0, _⟩ := (fld h fields47 (by simp) 0 3 0 1 rfl z3).int tInt
    obtain ⟨n1, e1, _⟩ := (fld h fields47 (by simp) 1 3 1 1 rfl z3).int tInt
    simp at e0 e1
    subst e0 e1
    exact ⟨(n0, n1), rfl⟩
theorem shapeRow {m : Nat} {cs : List Value} (h : Shape E m 45 cs) : ∃ p : Nat × List Rt, cs = [rowF 47 p.1 p.2] ∧ (p.1 = 0 ∨ (p.1 = 2 ∧ p.2 = [])) ∧ p.2.length * 16 ≤ 140737488351232 := by
  obtain ⟨n, x, cells, rfl, hx, hb, hs, hr⟩ := h.slice tRow z47
  obtain ⟨l, h1, h2⟩ := rows_of (α := Rt) (Q := Shape E (m - 1) 47) rc 2 (fun _ => rfl) (fun l hl => shapeRt hl) n cells.toList (by rw [Array.length_toList]; exact hs) hr
  have e : cells = (rcs l).toArray := Array.ext' h2
  have hrb : reachBytes = 140737488351232 := by decide
  refine ⟨(x, l), by rw [e, ← h1]; rfl, ?_, by dsimp only; omega⟩
  rcases hx with h | ⟨h, h0⟩
  · exact .inl h
  · exact .inr ⟨h, List.eq_nil_of_length_eq_zero (show l.length = 0 by omega)⟩
abbrev RowS := {p : Nat × List Rt // (p.1 = 0 ∨ (p.1 = 2 ∧ p.2 = [])) ∧ p.2.length * 16 ≤ 140737488351232}
theorem flat_rows : ∀ l : List RowS, l.flatMap (fun p => [rowF 47 p.1.1 p.1.2]) = (l.map (·.1)).map fun p => rowF 47 p.1 p.2
  | [] => rfl
  | a :: l => by rw [List.flatMap_cons, flat_rows l]; rfl
theorem shapeTab {m : Nat} {cs : List Value} (h : Shape E m 25 cs) : ∃ xt T, cs = [tabF 45 47 xt T] ∧ OkT xt T := by
  obtain ⟨n, x, cells, rfl, hx, hb, hs, hr⟩ := h.slice tTab z45
  obtain ⟨l, h1, h2⟩ := rows_of (α := RowS) (Q := Shape E (m - 1) 45) (fun p => [rowF 47 p.1.1 p.1.2]) 1 (fun _ => rfl) (fun l hl => by
    obtain ⟨p, hp, h3, h4⟩ := shapeRow hl
    exact ⟨⟨p, h3, h4⟩, hp⟩) n cells.toList (by rw [Array.length_toList]; exact hs) hr
  rw [flat_rows] at h2
  have e : cells = ((l.map (·.1)).map fun p => rowF 47 p.1 p.2).toArray := Array.ext' h2
  have hrb : reachBytes = 140737488351232 := by decide
  refine ⟨x, l.map (·.1), by unfold tabF; rw [e, List.length_map, h1], ?_, fun p hp => ?_, by rw [List.length_map]; omega, fun p hp => ?_⟩
  · rcases hx with h | ⟨h, h0⟩
    · exact .inl h
    · exact .inr ⟨h, by rw [List.eq_nil_of_length_eq_zero (show l.length = 0 by omega)]; rfl⟩
  · obtain ⟨q, _, rfl⟩ := List.mem_map.1 hp
    exact q.2.1
  · obtain ⟨q, _, rfl⟩ := List.mem_map.1 hp
    exact q.2.2
theorem argNet {m : Nat} {av : Value} (h : ShapeV E m 24 av) : ∃ N x ls, ls.length * 24 ≤ 140737488351232 ∧ av = netV N x ls := by
  obtain ⟨cs, rfl, hs⟩ := h.toAgg agg24
  obtain ⟨N, x, ls, rfl, hz⟩ := shapeNet hs
  exact ⟨N, x, ls, hz, rfl⟩
theorem argTab {m : Nat} {av : Value} (h : ShapeV E m 25 av) : ∃ xt T, OkT xt T ∧ av = tabF 45 47 xt T := by
  obtain ⟨xt, T, h1, h2⟩ := shapeTab (h.toOne agg25)
  exact ⟨xt, T, h2, by simpa using h1⟩
theorem argSettle {m : Nat} {av : Value} (h : ShapeV E m 27 av) : ∃ N x ls xt T p most, ls.length * 24 ≤ 140737488351232 ∧ OkT xt T ∧ av = .agg #[.int .i64 N, lks x ls, tabF 45 47 xt T, .bool p, .int .i64 most] := by
  obtain ⟨cs, rfl, hs⟩ := h.toAgg agg27
  obtain ⟨hl, _⟩ := hs.struct fields27 (by simp)
  match cs, hl with
  | [a, b, c, d, e], _ =>
    obtain ⟨N, x, ls, e0, hz⟩ := shapeNet (fld hs fields27 (by simp) 0 24 0 2 rfl (by kernel_rfl))
    obtain ⟨xt, T, e1, ok⟩ := shapeTab (fld hs fields27 (by simp) 1 25 2 1 rfl (by kernel_rfl))
    obtain ⟨p, e2⟩ := (fld hs fields27 (by simp) 2 4 3 1 rfl (by kernel_rfl)).bool tBool
    obtain ⟨q, e3, _⟩ := (fld hs fields27 (by simp) 3 3 4 1 rfl z3).int tInt
    simp at e0 e1 e2 e3
    obtain ⟨rfl, rfl⟩ := e0
    subst e1 e2 e3
    exact ⟨N, x, ls, xt, T, p, q, hz, ok, rfl⟩
open Go.Fw Go.RowKit

theorem shapeLinks2 {m : Nat} {cs : List Value} (h : Shape E m 22 cs) : ∃ x ls, cs = [lks x ls] ∧ ls.length * 24 ≤ 140737488351232 ∧ (x = 0 ∨ (x = 2 ∧ ls = [])) := by
  obtain ⟨n, x, cells, rfl, hx, hb, hs, hr⟩ := h.slice tLinks z48
  obtain ⟨ls, h1, h2⟩ := rows_of (α := Lk) (Q := Shape E (m - 1) 48) lc 3 (fun _ => rfl) (fun l hl => shapeLk hl) n cells.toList (by rw [Array.length_toList]; exact hs) hr
  have e : cells = (lcs ls).toArray := Array.ext' h2
  have hrb : reachBytes = 140737488351232 := by decide
  refine ⟨x, ls, by rw [e, ← h1]; rfl, by omega, ?_⟩
  rcases hx with h | ⟨h, h0⟩
  · exact .inl h
  · exact .inr ⟨h, List.eq_nil_of_length_eq_zero (show ls.length = 0 by omega)⟩
theorem shapeNet2 {m : Nat} {cs : List Value} (h : Shape E m 24 cs) : ∃ N x ls, cs = [.int .i64 N, lks x ls] ∧ ls.length * 24 ≤ 140737488351232 ∧ (x = 0 ∨ (x = 2 ∧ ls = [])) := by
  obtain ⟨hl, _⟩ := h.struct fields24 (by simp)
  match cs, hl with
  | [a, b], _ =>
    obtain ⟨N, e0, _⟩ := (fld h fields24 (by simp) 0 3 0 1 rfl z3).int tInt
    obtain ⟨x, ls, e1, hz, hx⟩ := shapeLinks2 (fld h fields24 (by simp) 1 22 1 1 rfl (by kernel_rfl))
    simp at e0 e1
    subst e0 e1
    exact ⟨N, x, ls, rfl, hz, hx⟩
theorem agg71 : (E.types 71).map (fun i => aggD i.desc) = some true := by kernel_rfl
theorem fields71 : fieldsOf E 71 = some (5, [(24, 0), (3, 2), (3, 3), (3, 4)]) := by kernel_rfl
theorem argCase {m : Nat} {av : Value} (h : ShapeV E m 71 av) : ∃ N x ls a b c, ls.length * 24 ≤ 140737488351232 ∧ (x = 0 ∨ (x = 2 ∧ ls = [])) ∧ av = caseV N x ls a b c := by
  obtain ⟨cs, rfl, hs⟩ := h.toAgg agg71
  obtain ⟨hl, _⟩ := hs.struct fields71 (by simp)
  match cs, hl with
  | [a, b, c, d, e], _ =>
    obtain ⟨N, x, ls, e0, hz, hx⟩ := shapeNet2 (fld hs fields71 (by simp) 0 24 0 2 rfl (by kernel_rfl))
    obtain ⟨p, e1, _⟩ := (fld hs fields71 (by simp) 1 3 2 1 rfl z3).int tInt
    obtain ⟨q, e2, _⟩ := (fld hs fields71 (by simp) 2 3 3 1 rfl z3).int tInt
    obtain ⟨r, e3, _⟩ := (fld hs fields71 (by simp) 3 3 4 1 rfl z3).int tInt
    simp at e0 e1 e2 e3
    obtain ⟨rfl, rfl⟩ := e0
    subst e1 e2 e3
    exact ⟨N, x, ls, p, q, r, hz, hx, rfl⟩
end Go.Proofs.Ytfjkanjmggbofaa.D
