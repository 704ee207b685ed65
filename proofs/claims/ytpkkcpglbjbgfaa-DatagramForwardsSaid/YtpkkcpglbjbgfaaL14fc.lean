/- A forwarding case that is handed in. -/
import Derived.Test.YtpkkcpglbjbgfaaL14in
import Derived.Test.YtpkkcpglbjbgfaaG14d
namespace Go.Proofs.Ytpkkcpglbjbgfaa.D
open Go.Fw Go.RowKit

theorem size1_22 : (E.types 22).map TI.size = some 1 := by kernel_rfl
theorem size1_3 : (E.types 3).map TI.size = some 1 := by kernel_rfl
theorem fields98 : fieldsOf E 98 = some (2, [(22, 0), (3, 1)]) := by kernel_rfl
theorem fields76 : fieldsOf E 76 = some (2, [(3, 0), (3, 1)]) := by kernel_rfl
theorem list2 {l : List Value} (h : l.length = 2) : ∃ a0 a1, l = [a0, a1] := by
  match l, h with
  | [a0, a1], _ => exact ⟨a0, a1, rfl⟩
theorem shapeEn {m : Nat} {cs : List Value} (h : Shape E m 98 cs) : ∃ e : { e : En // OkEn e }, cs = ec e.1 := by
  obtain ⟨hl, hf⟩ := h.struct fields98 (by simp)
  obtain ⟨a0, a1, rfl⟩ := list2 hl
  obtain ⟨t0, g1, g2⟩ := hf 0 (22, 0) rfl
  obtain ⟨t1, k1, k2⟩ := hf 1 (3, 1) rfl
  dsimp only at g1 g2 k1 k2
  rw [size1 22 t0 size1_22 g1] at g2
  rw [size1 3 t1 size1_3 k1] at k2
  obtain ⟨x, p, e0, hx, hp⟩ := shapeInts g2
  obtain ⟨n, e1, _⟩ := k2.int tInt
  simp only [List.drop_zero, List.drop_succ_cons, List.take_succ_cons, List.take_zero, List.cons.injEq, and_true] at e0 e1
  subst e0 e1
  exact ⟨⟨⟨x, p, n⟩, ⟨hx, hp⟩⟩, rfl⟩
theorem shapeLn {m : Nat} {cs : List Value} (h : Shape E m 76 cs) : ∃ e : Ln, cs = lc e := by
  obtain ⟨hl, hf⟩ := h.struct fields76 (by simp)
  obtain ⟨a0, a1, rfl⟩ := list2 hl
  obtain ⟨t0, g1, g2⟩ := hf 0 (3, 0) rfl
  obtain ⟨t1, k1, k2⟩ := hf 1 (3, 1) rfl
  dsimp only at g1 g2 k1 k2
  rw [size1 3 t0 size1_3 g1] at g2
  rw [size1 3 t1 size1_3 k1] at k2
  obtain ⟨n0, e0, _⟩ := g2.int tInt
  obtain ⟨n, e1, _⟩ := k2.int tInt
  simp only [List.drop_zero, List.drop_succ_cons, List.take_succ_cons, List.take_zero, List.cons.injEq, and_true] at e0 e1
  subst e0 e1
  exact ⟨⟨n0, n⟩, rfl⟩
theorem t70 : (E.types 70).map TI.desc = some (.slice 98) := by kernel_rfl
theorem t71 : (E.types 71).map TI.desc = some (.slice 76) := by kernel_rfl
theorem b98 : (E.types 98).map (fun i => (i.size, i.bytes)) = some (2, 32) := by kernel_rfl
theorem b76 : (E.types 76).map (fun i => (i.size, i.bytes)) = some (2, 16) := by kernel_rfl
theorem shapeEnts {m : Nat} {cs : List Value} (h : Shape E m 70 cs) : ∃ x l, cs = [ents 98 x l] ∧ (x = 0 ∨ (x = 2 ∧ l = [])) ∧ (∀ e ∈ l, OkEn e) ∧ l.length * 32 ≤ 140737488351232 := by
  obtain ⟨n, x, cells, rfl, hx, hb, hs, hr⟩ := h.slice t70 b98
  obtain ⟨l, h1, h2⟩ := rows_of (α := { e : En // OkEn e }) (Q := Shape E (m - 1) 98) (fun z => ec z.1) 2 (fun _ => rfl) (fun l hl => shapeEn hl) n cells.toList (by rw [Array.length_toList]; exact hs) hr
  have e : cells = ((l.map Subtype.val).flatMap ec).toArray := by
    apply Array.ext'
    rw [h2, List.flatMap_map]
  subst h1
  refine ⟨x, l.map Subtype.val, by rw [e]; simp [ents], ?_, fun e he => ?_, ?_⟩
  · rcases hx with h | h
    · exact .inl h
    · exact .inr ⟨h.1, by rw [List.eq_nil_of_length_eq_zero h.2]; rfl⟩
  · obtain ⟨z, _, rfl⟩ := List.mem_map.1 he
    exact z.2
  · have : reachBytes = 140737488351232 := by decide
    rw [List.length_map]
    omega
theorem shapeLns {m : Nat} {cs : List Value} (h : Shape E m 71 cs) : ∃ x l, cs = [lns 76 x l] ∧ (x = 0 ∨ (x = 2 ∧ l = [])) ∧ l.length * 16 ≤ 140737488351232 := by
  obtain ⟨n, x, cells, rfl, hx, hb, hs, hr⟩ := h.slice t71 b76
  obtain ⟨l, h1, h2⟩ := rows_of (α := Ln) (Q := Shape E (m - 1) 76) lc 2 (fun _ => rfl) (fun l hl => shapeLn hl) n cells.toList (by rw [Array.length_toList]; exact hs) hr
  have e : cells = (l.flatMap lc).toArray := by
    apply Array.ext'
    rw [h2]
  subst h1
  refine ⟨x, l, by rw [e]; rfl, ?_, ?_⟩
  · rcases hx with h | h
    · exact .inl h
    · exact .inr ⟨h.1, List.eq_nil_of_length_eq_zero h.2⟩
  · have : reachBytes = 140737488351232 := by decide
    omega
theorem fields73 : fieldsOf E 73 = some (14, [(22, 0), (70, 1), (71, 2), (24, 3)]) := by kernel_rfl
theorem agg73 : (E.types 73).map (fun i => aggD i.desc) = some true := by kernel_rfl
theorem size24 : (E.types 24).map TI.size = some 11 := by kernel_rfl
theorem size1_70 : (E.types 70).map TI.size = some 1 := by kernel_rfl
theorem size1_71 : (E.types 71).map TI.size = some 1 := by kernel_rfl
theorem argCase {m : Nat} {av : Value} (h : ShapeV E m 73 av) : ∃ x xt xl me l ls g, (x = 2 → me = []) ∧ me.length ≤ 17592186044416 ∧ (xt = 0 ∨ (xt = 2 ∧ l = [])) ∧ (∀ e ∈ l, OkEn e) ∧ OkGr g ∧ l.length * 32 ≤ 140737488351232 ∧ ls.length * 16 ≤ 140737488351232 ∧ (xl = 0 ∨ (xl = 2 ∧ ls = [])) ∧ av = fcV x xt xl me l ls g := by
  obtain ⟨cs, rfl, hs⟩ := h.toAgg agg73
  obtain ⟨hl, hf⟩ := hs.struct fields73 (by simp)
  obtain ⟨t0, g1, g2⟩ := hf 0 (22, 0) rfl
  obtain ⟨t1, i1, i2⟩ := hf 1 (70, 1) rfl
  obtain ⟨t2, j1, j2⟩ := hf 2 (71, 2) rfl
  obtain ⟨t3, k1, k2⟩ := hf 3 (24, 3) rfl
  dsimp only at g1 g2 i1 i2 j1 j2 k1 k2
  rw [size1 22 t0 size1_22 g1] at g2
  rw [size1 70 t1 size1_70 i1] at i2
  rw [size1 71 t2 size1_71 j1] at j2
  have e3 : t3.size = 11 := by
    have := size24
    rw [k1] at this
    exact Option.some.inj this
  rw [e3] at k2
  obtain ⟨x, me, e0, hx, hm⟩ := shapeInts g2
  obtain ⟨xt, l, e1, hxt, ok, hll⟩ := shapeEnts i2
  obtain ⟨xl, ls, e2, hxl, hls⟩ := shapeLns j2
  obtain ⟨g, og, e3⟩ := shapeGr k2
  match cs, hl, e0, e1, e2, e3 with
  | a0 :: a1 :: a2 :: r, hl, e0, e1, e2, e3 =>
    simp only [List.drop_zero, List.drop_succ_cons, List.take_succ_cons, List.take_zero, List.cons.injEq, and_true] at e0 e1 e2 e3
    have hr : r.length = 11 := by simpa using hl
    rw [List.take_of_length_le (by omega)] at e3
    subst e0 e1 e2 e3
    exact ⟨x, xt, xl, me, l, ls, g, hx, hm, hxt, ok, og, hll, hls, hxl, rfl⟩
end Go.Proofs.Ytpkkcpglbjbgfaa.D
