/- Displays: apply: scroll, erase, fill. -/
import Derived.Test.YtlejgfeoffhjoaaFwLem
import Derived.Test.YtlejgfeoffhjoaaF34e
namespace Go.Proofs.Ytlejgfeoffhjoaa.D
open Go.Fw Go.RowKit

/-- Rows moved up. -/
def upF (R : Nat) (f : Nat → Nat → UInt8) (b : UInt8) (i j : Nat) : UInt8 := if i + 1 < R then f (i + 1) j else b
theorem up_eq {R C : Nat} {f : Nat → Nat → UInt8} (b : UInt8) (h : 1 ≤ R) : (mkR R C f).drop 1 ++ [fillS b C] = mkR R C (upF R f b) := by
  have hr : ∀ i, i < R → rowAt ((mkR R C f).drop 1 ++ [fillS b C]) i = if i + 1 < R then rowAt (mkR R C f) (i + 1) else fillS b C := fun i hi => by
    rw [rowAt, List.getD_eq_getElem?_getD]
    by_cases q : i + 1 < R
    · rw [if_pos q, List.getElem?_append_left (by rw [List.length_drop, mkR_len]; omega), List.getElem?_drop, ← List.getD_eq_getElem?_getD, Nat.add_comm 1 i]
    · rw [if_neg q, List.getElem?_append_right (by rw [List.length_drop, mkR_len]; omega), List.length_drop, mkR_len, show i - (R - 1) = 0 by omega]
      rfl
  refine mkR_of (by rw [List.length_append, List.length_drop, mkR_len, List.length_singleton]; omega) (fun i hi => ?_) fun i j hi hj => ?_
  · rw [hr i hi]
    split
    · exact mkR_size (by omega)
    · exact fillS_size _ _
  · rw [hr i hi, upF]
    split
    · exact mkR_at (by omega) hj
    · exact fillS_at _ hj
theorem up_cells {R C : Nat} {f : Nat → Nat → UInt8} (h : 1 ≤ R) : cellsAt ((mkR R C f).map Value.string) 1 ((R - 1) * 1) = some (((mkR R C f).drop 1).map Value.string) := by
  have hl : ((mkR R C f).map Value.string).length = R := by rw [List.length_map, mkR_len]
  unfold cellsAt
  rw [if_pos (by rw [hl]; omega), ← List.map_drop, List.take_of_length_le (by rw [List.length_map, List.length_drop, mkR_len]; omega)]
theorem up_blk {R C : Nat} {f : Nat → Nat → UInt8} {b : UInt8} (h : 1 ≤ R) : sB (mkR R C (upF R f b)) = ⟨9, true, ((mkR R C f).drop 1).map Value.string ++ [.string (fillS b C)]⟩ := by
  unfold sB
  rw [← up_eq b h, List.map_append]
  rfl
set_option maxHeartbeats 4000000 in
theorem apply5 (x y R C : Nat) (f g : Nat → Nat → UInt8) (i j row col n : Int) (t : ByteArray) (hx : x ≠ 2) (hy : y ≠ 2) (h0 : 1 ≤ R) (hR : R ≤ 40) (hC : C ≤ 80) : Fun E 40 [dv x y (mkR R C f) (mkR R C g) i j, uv 5 row col n t] (dv 0 0 (mkR R C (upF R f 32)) (mkR R C (upF R g 48)) i j) := by
  refine Fun.of f40 rfl (of_decide_eq_true (by kernel_rfl)) (dv_ice _ _ _ _ _ _) ?_
  have c1 := clone64m x R C f hx (by omega) hR
  have c2 := clone64m y R C g hy (by omega) hR
  have l1 : 0 ≤ (0 : Int) ∧ (0 : Int) < (mkR R C f).length := by rw [mkR_len]; omega
  have v1 := strs_0 (mkR R C f) (by rw [mkR_len]; omega)
  have fl1 := strs_flat (mkR R C f)
  have fl2 := strs_flat (mkR R C g)
  have e0 : (rowAt (mkR R C f) 0).size = C := mkR_size (by omega)
  have c3 : Lent E 65 [.int .i64 (rowAt (mkR R C f) 0).size] [] (.string (fillS 32 C)) [] := by rw [e0]; exact blank65 _ (by omega)
  have c4 : Fun E 45 [.string ⟨#[48]⟩, .int .i64 (rowAt (mkR R C f) 0).size] (.string (fillS 48 C)) := by rw [e0]; exact fill45 _ _ (by omega)
  have a0 : 0 ≤ (1 : Int) ∧ (1 : Int) ≤ R := by omega
  have a1 : ¬ (R - 1 + 1 ≤ R - 1) := by omega
  have a2 : 1 ≤ 16 ∧ (R - 1 + 1) * 16 ≤ 140737488355328 ∧ 1 = 1 ∧ R - 1 + 1 ≤ 9223372036854775807 := by omega
  have a3 : cellsAt ((mkR R C f).map Value.string) 1 ((R - 1) * 1) = some (((mkR R C f).drop 1).map Value.string) := up_cells h0
  have a4 : cellsAt ((mkR R C g).map Value.string) 1 ((R - 1) * 1) = some (((mkR R C g).drop 1).map Value.string) := up_cells h0
  unfold dv uv strs
  unfold strs sB at c1 c2
  refine Wp.seq (Wp.text ?_)
  refine md 2 (.pointer (some ⟨0, 0, none⟩)) (Blk.mk 24 true [strs x (mkR R C f), strs y (mkR R C g), Value.int .i64 i, Value.int .i64 j]) ?_
  refine md 3 (.pointer (some ⟨1, 0, none⟩)) (Blk.mk 26 true [Value.int .i64 5, Value.int .i64 row, Value.int .i64 col, Value.int .i64 n, Value.string t]) ?_
  refine md 4 (.pointer (some ⟨2, 0, none⟩)) (Blk.mk 24 true [Value.slice none 0 0, Value.slice none 0 0, Value.int .i64 0, Value.int .i64 0]) ?_
  refine WpOps.nil (thenK_at (Wp.seq ?_))
  refine Wp.region (by kernel_rfl) ?_
  refine kp 11 (.pointer (some ⟨0, 0, none⟩)) ?_
  refine kp 12 (.iface 9 (Value.iface (List.length (mkR R C f)) (Value.iface x (Value.agg (List.toArray (List.map Value.string (mkR R C f))))))) ?_
  refine kp 13 (.int IntKind.i64 (↑(List.length (mkR R C f)) : Int)) ?_
  refine kp 14 (.pointer (some ⟨0, 0, none⟩)) ?_
  refine kp 15 (.iface 9 (Value.iface (List.length (mkR R C f)) (Value.iface x (Value.agg (List.toArray (List.map Value.string (mkR R C f))))))) ?_
  refine kp 16 (.iface 9 (Value.iface 0 (Value.agg (List.toArray (List.map Value.string (mkR R C f)))))) ?_ (hop := fun _ => o_indexI (e := 9) (size := 1) (a := 0) l1)
  refine kp 17 (.string (rowAt (mkR R C f) 0)) ?_ (hop := fun _ => o_loadI1 (0) v1)
  refine kp 18 (.int IntKind.i64 (↑(ByteArray.size (rowAt (mkR R C f) 0)) : Int)) ?_
  refine kp 5 (.int IntKind.i64 (↑(List.length (mkR R C f)) : Int)) ?_
  refine kp 6 (.int IntKind.i64 (↑(ByteArray.size (rowAt (mkR R C f) 0)) : Int)) ?_
  refine WpOps.nil (thenK_at (Wp.seq ?_))
  refine Wp.region (by kernel_rfl) ?_
  refine kp 19 (.pointer (some ⟨0, 0, none⟩)) ?_
  refine kp 20 (.iface 9 (Value.iface (List.length (mkR R C f)) (Value.iface x (Value.agg (List.toArray (List.map Value.string (mkR R C f))))))) ?_
  refine clr 21 64 [strs x (mkR R C f)] ?_
  refine WpCall.lent [] (c1) (by decide) trivial (by kernel_rfl) (Value.slice (some (Addr.mk (List.getD [3] 0 0) 0 none)) R R) ([Blk.mk 9 true (List.map Value.string (mkR R C f))]) (.cons (unB_flat (by assumption)) .nil) (by kernel_rfl) (Heap.alloc (Heap.ro (Heap.alloc (Heap.alloc (Heap.alloc Heap.none (Blk.mk 24 true [strs x (mkR R C f), strs y (mkR R C g), Value.int IntKind.i64 i, Value.int IntKind.i64 j])) (Blk.mk 26 true [Value.int IntKind.i64 5, Value.int IntKind.i64 row, Value.int IntKind.i64 col, Value.int IntKind.i64 n, Value.string t])) (Blk.mk 24 true [Value.slice none 0 0, Value.slice none 0 0, Value.int IntKind.i64 0, Value.int IntKind.i64 0]))) (Blk.mk 9 true (List.map Value.string (mkR R C f)))) (by kernel_rfl) ?_
  refine kp 22 (.pointer (some ⟨0, 1, none⟩)) ?_
  refine kp 23 (.iface 9 (Value.iface (List.length (mkR R C g)) (Value.iface y (Value.agg (List.toArray (List.map Value.string (mkR R C g))))))) ?_
  refine cl 24 64 [strs y (mkR R C g)] ?_
  refine WpCall.lent [] (c2) (by decide) trivial (by kernel_rfl) (Value.slice (some (Addr.mk (List.getD [4] 0 0) 0 none)) R R) ([Blk.mk 9 true (List.map Value.string (mkR R C g))]) (.cons (unB_flat (by assumption)) .nil) (by kernel_rfl) (Heap.alloc (Heap.merge (Heap.alloc (Heap.alloc (Heap.alloc Heap.none (Blk.mk 24 true [strs x (mkR R C f), strs y (mkR R C g), Value.int IntKind.i64 i, Value.int IntKind.i64 j])) (Blk.mk 26 true [Value.int IntKind.i64 5, Value.int IntKind.i64 row, Value.int IntKind.i64 col, Value.int IntKind.i64 n, Value.string t])) (Blk.mk 24 true [Value.slice none 0 0, Value.slice none 0 0, Value.int IntKind.i64 0, Value.int IntKind.i64 0])) (Heap.alloc (Heap.ro (Heap.alloc (Heap.alloc (Heap.alloc Heap.none (Blk.mk 24 true [strs x (mkR R C f), strs y (mkR R C g), Value.int IntKind.i64 i, Value.int IntKind.i64 j])) (Blk.mk 26 true [Value.int IntKind.i64 5, Value.int IntKind.i64 row, Value.int IntKind.i64 col, Value.int IntKind.i64 n, Value.string t])) (Blk.mk 24 true [Value.slice none 0 0, Value.slice none 0 0, Value.int IntKind.i64 0, Value.int IntKind.i64 0]))) (Blk.mk 9 true (List.map Value.string (mkR R C f))))) (Blk.mk 9 true (List.map Value.string (mkR R C g)))) (by kernel_rfl) ?_
  refine kp 25 (.pointer (some ⟨0, 0, none⟩)) ?_
  refine ld (.tuple #[]) (0) (Blk.mk 24 true [Value.slice (some (Addr.mk (List.getD [3] 0 0) 0 none)) R R, strs y (mkR R C g), Value.int .i64 i, Value.int .i64 j]) ?_
  refine kp 26 (.pointer (some ⟨0, 1, none⟩)) ?_
  refine cg0 (.tuple #[]) (Heap.set (Heap.set (Heap.alloc (Heap.merge (Heap.alloc (Heap.alloc (Heap.alloc Heap.none (Blk.mk 24 true [strs x (mkR R C f), strs y (mkR R C g), Value.int .i64 i, Value.int .i64 j])) (Blk.mk 26 true [Value.int .i64 5, Value.int .i64 row, Value.int .i64 col, Value.int .i64 n, Value.string t])) (Blk.mk 24 true [Value.slice none 0 0, Value.slice none 0 0, Value.int .i64 0, Value.int .i64 0])) (Heap.alloc (Heap.ro (Heap.alloc (Heap.alloc (Heap.alloc Heap.none (Blk.mk 24 true [strs x (mkR R C f), strs y (mkR R C g), Value.int .i64 i, Value.int .i64 j])) (Blk.mk 26 true [Value.int .i64 5, Value.int .i64 row, Value.int .i64 col, Value.int .i64 n, Value.string t])) (Blk.mk 24 true [Value.slice none 0 0, Value.slice none 0 0, Value.int .i64 0, Value.int .i64 0]))) (Blk.mk 9 true (List.map Value.string (mkR R C f))))) (Blk.mk 9 true (List.map Value.string (mkR R C g)))) 0 (some (Blk.mk 24 true [Value.slice (some ⟨3, 0, none⟩) R R, strs y (mkR R C g), Value.int .i64 i, Value.int .i64 j]))) 0 (some (Blk.mk 24 true [Value.slice (some ⟨3, 0, none⟩) R R, Value.slice (some (Addr.mk (List.getD [4] 0 0) 0 none)) R R, Value.int .i64 i, Value.int .i64 j]))) ?_
  refine WpOps.nil (thenK_at (Wp.seq (Wp.text ?_)))
  refine kp 7 (.func (Fn.func 65) #[] #[]) ?_
  refine WpOps.nil (thenK_at (Wp.seq (Wp.seq (Wp.text ?_))))
  refine kp 27 (.pointer (some ⟨1, 0, none⟩)) ?_
  refine kp 28 (.int IntKind.i64 5) ?_
  refine WpOps.nil (thenK_at (Wp.block (Wp.seq (Wp.text ?_))))
  refine kp 30 (.bool false) ?_
  refine kp 29 (.bool false) ?_
  refine WpOps.nil (thenK_at (off' (Wp.seq (Wp.text ?_))))
  refine kp 38 (.bool false) ?_
  refine kp 37 (.bool false) ?_
  refine WpOps.nil (thenK_at (off' (Wp.seq (Wp.text ?_))))
  refine kp 45 (.bool false) ?_
  refine kp 44 (.bool false) ?_
  refine WpOps.nil (thenK_at (off' (Wp.seq (Wp.text ?_))))
  refine kp 58 (.bool false) ?_
  refine kp 57 (.bool false) ?_
  refine WpOps.nil (thenK_at (off' (Wp.seq (Wp.text ?_))))
  refine kp 72 (.bool true) ?_
  refine kp 71 (.bool true) ?_
  refine WpOps.nil (thenK_at (on' (Wp.seq ?_)))
  refine Wp.region (by kernel_rfl) ?_
  refine kp 73 (.pointer (some ⟨0, 0, none⟩)) ?_
  refine kp 74 (.slice (some ⟨3, 0, none⟩) R R) ?_
  refine kp 75 (.slice (some ⟨3, 1, none⟩) (R - 1) (R - 1)) ?_ (hop := fun _ => o_cutS_lo (a := 1) (bl := 3) (off := 0) (e := 9) (size := 1) a0)
  refine kp 76 (.func (Fn.func 65) #[] #[]) ?_
  refine kp 77 (.int IntKind.i64 (↑(ByteArray.size (rowAt (mkR R C f) 0)) : Int)) ?_
  refine clr 78 65 [Value.int .i64 (↑(ByteArray.size (rowAt (mkR R C f) 0)) : Int)] ?_
  refine WpCall.lent [] (c3) (by decide) trivial (by kernel_rfl) (Value.string (fillS 32 C)) ([]) .nil (by kernel_rfl) (Heap.ro (Heap.set (Heap.set (Heap.alloc (Heap.merge (Heap.alloc (Heap.alloc (Heap.alloc Heap.none (Blk.mk 24 true [strs x (mkR R C f), strs y (mkR R C g), Value.int IntKind.i64 i, Value.int IntKind.i64 j])) (Blk.mk 26 true [Value.int IntKind.i64 5, Value.int IntKind.i64 row, Value.int IntKind.i64 col, Value.int IntKind.i64 n, Value.string t])) (Blk.mk 24 true [Value.slice none 0 0, Value.slice none 0 0, Value.int IntKind.i64 0, Value.int IntKind.i64 0])) (Heap.alloc (Heap.ro (Heap.alloc (Heap.alloc (Heap.alloc Heap.none (Blk.mk 24 true [strs x (mkR R C f), strs y (mkR R C g), Value.int IntKind.i64 i, Value.int IntKind.i64 j])) (Blk.mk 26 true [Value.int IntKind.i64 5, Value.int IntKind.i64 row, Value.int IntKind.i64 col, Value.int IntKind.i64 n, Value.string t])) (Blk.mk 24 true [Value.slice none 0 0, Value.slice none 0 0, Value.int IntKind.i64 0, Value.int IntKind.i64 0]))) (Blk.mk 9 true (List.map Value.string (mkR R C f))))) (Blk.mk 9 true (List.map Value.string (mkR R C g)))) 0 (some (Blk.mk 24 true [Value.slice (some (Addr.mk 3 0 none)) R R, strs y (mkR R C g), Value.int IntKind.i64 i, Value.int IntKind.i64 j]))) 0 (some (Blk.mk 24 true [Value.slice (some (Addr.mk 3 0 none)) R R, Value.slice (some (Addr.mk 4 0 none)) R R, Value.int IntKind.i64 i, Value.int IntKind.i64 j])))) (by kernel_rfl) ?_
  refine cg 79 (.slice (some ⟨5, 0, none⟩) 1 1) (Heap.alloc (Heap.merge (Heap.set (Heap.set (Heap.alloc (Heap.merge (Heap.alloc (Heap.alloc (Heap.alloc Heap.none (Blk.mk 24 true [strs x (mkR R C f), strs y (mkR R C g), Value.int .i64 i, Value.int .i64 j])) (Blk.mk 26 true [Value.int .i64 5, Value.int .i64 row, Value.int .i64 col, Value.int .i64 n, Value.string t])) (Blk.mk 24 true [Value.slice none 0 0, Value.slice none 0 0, Value.int .i64 0, Value.int .i64 0])) (Heap.alloc (Heap.ro (Heap.alloc (Heap.alloc (Heap.alloc Heap.none (Blk.mk 24 true [strs x (mkR R C f), strs y (mkR R C g), Value.int .i64 i, Value.int .i64 j])) (Blk.mk 26 true [Value.int .i64 5, Value.int .i64 row, Value.int .i64 col, Value.int .i64 n, Value.string t])) (Blk.mk 24 true [Value.slice none 0 0, Value.slice none 0 0, Value.int .i64 0, Value.int .i64 0]))) (Blk.mk 9 true (List.map Value.string (mkR R C f))))) (Blk.mk 9 true (List.map Value.string (mkR R C g)))) 0 (some (Blk.mk 24 true [Value.slice (some ⟨3, 0, none⟩) R R, strs y (mkR R C g), Value.int .i64 i, Value.int .i64 j]))) 0 (some (Blk.mk 24 true [Value.slice (some ⟨3, 0, none⟩) R R, Value.slice (some ⟨4, 0, none⟩) R R, Value.int .i64 i, Value.int .i64 j]))) (Heap.ro (Heap.set (Heap.set (Heap.alloc (Heap.merge (Heap.alloc (Heap.alloc (Heap.alloc Heap.none (Blk.mk 24 true [strs x (mkR R C f), strs y (mkR R C g), Value.int .i64 i, Value.int .i64 j])) (Blk.mk 26 true [Value.int .i64 5, Value.int .i64 row, Value.int .i64 col, Value.int .i64 n, Value.string t])) (Blk.mk 24 true [Value.slice none 0 0, Value.slice none 0 0, Value.int .i64 0, Value.int .i64 0])) (Heap.alloc (Heap.ro (Heap.alloc (Heap.alloc (Heap.alloc Heap.none (Blk.mk 24 true [strs x (mkR R C f), strs y (mkR R C g), Value.int .i64 i, Value.int .i64 j])) (Blk.mk 26 true [Value.int .i64 5, Value.int .i64 row, Value.int .i64 col, Value.int .i64 n, Value.string t])) (Blk.mk 24 true [Value.slice none 0 0, Value.slice none 0 0, Value.int .i64 0, Value.int .i64 0]))) (Blk.mk 9 true (List.map Value.string (mkR R C f))))) (Blk.mk 9 true (List.map Value.string (mkR R C g)))) 0 (some (Blk.mk 24 true [Value.slice (some ⟨3, 0, none⟩) R R, strs y (mkR R C g), Value.int .i64 i, Value.int .i64 j]))) 0 (some (Blk.mk 24 true [Value.slice (some ⟨3, 0, none⟩) R R, Value.slice (some ⟨4, 0, none⟩) R R, Value.int .i64 i, Value.int .i64 j]))))) (Blk.mk 9 true [Value.string (fillS 32 C)])) ?_
  refine ra 80 (.slice (some ⟨6, 0, none⟩) (R - 1 + 1) (R - 1 + 1)) (3) (Blk.mk 9 true (List.map Value.string (List.drop 1 (mkR R C f)) ++ [Value.string (fillS 32 C)])) ?_ (hop := fun _ => o_append (e := 9) 3 (1) (R - 1) _ (R - 1) a1 a2 a3)
  refine kp 81 (.pointer (some ⟨0, 0, none⟩)) ?_
  refine ld (.tuple #[]) (0) (Blk.mk 24 true [Value.slice (some ⟨6, 0, none⟩) (R - 1 + 1) (R - 1 + 1), Value.slice (some ⟨4, 0, none⟩) R R, Value.int .i64 i, Value.int .i64 j]) ?_
  refine WpOps.nil (thenK_at ?_)
  refine Wp.region (by kernel_rfl) ?_
  refine kp 82 (.pointer (some ⟨0, 1, none⟩)) ?_
  refine kp 83 (.slice (some ⟨4, 0, none⟩) R R) ?_
  refine kp 84 (.slice (some ⟨4, 1, none⟩) (R - 1) (R - 1)) ?_ (hop := fun _ => o_cutS_lo (a := 1) (bl := 4) (off := 0) (e := 9) (size := 1) a0)
  refine kp 85 (.int IntKind.i64 (↑(ByteArray.size (rowAt (mkR R C f) 0)) : Int)) ?_
  refine fr 86 45 [Value.string (ByteArray.mk #[48]), Value.int .i64 (↑(ByteArray.size (rowAt (mkR R C f) 0)) : Int)] ?_
  refine WpFun.of (c4) ?_
  refine md 87 (.slice (some ⟨7, 0, none⟩) 1 1) (Blk.mk 9 true [Value.string (fillS 48 C)]) ?_
  refine ra 88 (.slice (some ⟨8, 0, none⟩) (R - 1 + 1) (R - 1 + 1)) (4) (Blk.mk 9 true (List.map Value.string (List.drop 1 (mkR R C g)) ++ [Value.string (fillS 48 C)])) ?_ (hop := fun _ => o_append (e := 9) 4 (1) (R - 1) _ (R - 1) a1 a2 a4)
  refine kp 89 (.pointer (some ⟨0, 1, none⟩)) ?_
  refine ld (.tuple #[]) (0) (Blk.mk 24 true [Value.slice (some ⟨6, 0, none⟩) (R - 1 + 1) (R - 1 + 1), Value.slice (some ⟨8, 0, none⟩) (R - 1 + 1) (R - 1 + 1), Value.int .i64 i, Value.int .i64 j]) ?_
  refine WpOps.nil (blockK_norm (thenK_at (Wp.seq (Wp.text ?_))))
  refine kp 123 (.agg #[Value.slice (some ⟨6, 0, none⟩) (R - 1 + 1) (R - 1 + 1), Value.slice (some ⟨8, 0, none⟩) (R - 1 + 1) (R - 1 + 1), Value.int .i64 i, Value.int .i64 j]) ?_
  refine ld (.tuple #[]) (2) (Blk.mk 24 true [Value.slice (some ⟨6, 0, none⟩) (R - 1 + 1) (R - 1 + 1), Value.slice (some ⟨8, 0, none⟩) (R - 1 + 1) (R - 1 + 1), Value.int .i64 i, Value.int .i64 j]) ?_
  refine WpOps.nil (thenK_at (Wp.ret ?_))
  refine endK_retn [Value.agg #[Value.slice (some (Addr.mk 6 0 none)) (R - 1 + 1) (R - 1 + 1), Value.slice (some (Addr.mk 8 0 none)) (R - 1 + 1) (R - 1 + 1), Value.int IntKind.i64 i, Value.int IntKind.i64 j]] (Value.agg #[Value.slice (some (Addr.mk 6 0 none)) (R - 1 + 1) (R - 1 + 1), Value.slice (some (Addr.mk 8 0 none)) (R - 1 + 1) (R - 1 + 1), Value.int IntKind.i64 i, Value.int IntKind.i64 j]) (by kernel_rfl) (by kernel_rfl) ?_
  exact ice_dv (mkR R C (upF R f 32)) (mkR R C (upF R g 48)) i j (by rw [mkR_len]; omega) (by rw [mkR_len]; omega) (by rw [up_blk h0]; kernel_rfl) (by rw [up_blk h0]; kernel_rfl)
/-- Rows above k erased. -/
def erF (k : Nat) (b : UInt8) (f : Nat → Nat → UInt8) (i j : Nat) : UInt8 := if i < k then b else f i j
theorem er_step {R C k : Nat} {b : UInt8} {f : Nat → Nat → UInt8} : mkR R C (putF (erF k b f) k 0 (fillS b C)) = mkR R C (erF (k + 1) b f) := by
  refine mkR_congr fun i j hi hj => ?_
  unfold putF erF
  rw [fillS_size]
  by_cases h : i = k
  · rw [if_pos ⟨h, by omega, by omega⟩, if_pos (by omega), fillS_at _ (by omega)]
  · rw [if_neg (by omega)]
    by_cases q : i < k
    · rw [if_pos q, if_pos (by omega)]
    · rw [if_neg q, if_neg (by omega)]
set_option maxHeartbeats 4000000 in
theorem apply3 (x y R C : Nat) (f g : Nat → Nat → UInt8) (i j row col n : Int) (t : ByteArray) (hx : x ≠ 2) (hy : y ≠ 2) (h0 : 1 ≤ R) (hR : R ≤ 40) (hC : C ≤ 80) : Fun E 40 [dv x y (mkR R C f) (mkR R C g) i j, uv 3 row col n t] (dv 0 0 (mkR R C (fun _ _ => 32)) (mkR R C (fun _ _ => 48)) 0 0) := by
  refine Fun.of f40 rfl (of_decide_eq_true (by kernel_rfl)) (dv_ice _ _ _ _ _ _) ?_
  have c1 := clone64m x R C f hx (by omega) hR
  have c2 := clone64m y R C g hy (by omega) hR
  have l1 : 0 ≤ (0 : Int) ∧ (0 : Int) < (mkR R C f).length := by rw [mkR_len]; omega
  have v1 := strs_0 (mkR R C f) (by rw [mkR_len]; omega)
  have fl1 := strs_flat (mkR R C f)
  have fl2 := strs_flat (mkR R C g)
  have e0 : (rowAt (mkR R C f) 0).size = C := mkR_size (by omega)
  have e1 : (((rowAt (mkR R C f) 0).size : Nat) : Int) = C := by rw [e0]
  have e2 : (((mkR R C f).length : Nat) : Int) = R := by rw [mkR_len]
  have z1 : mkR R C f = mkR R C (erF 0 32 f) := mkR_congr fun a b _ _ => by unfold erF; rw [if_neg (Nat.not_lt_zero _)]
  have z2 : mkR R C g = mkR R C (erF 0 48 g) := mkR_congr fun a b _ _ => by unfold erF; rw [if_neg (Nat.not_lt_zero _)]
  unfold dv uv strs
  unfold strs sB at c1 c2
  refine Wp.seq (Wp.text ?_)
  refine md 2 (.pointer (some ⟨0, 0, none⟩)) (Blk.mk 24 true [strs x (mkR R C f), strs y (mkR R C g), Value.int .i64 i, Value.int .i64 j]) ?_
  refine md 3 (.pointer (some ⟨1, 0, none⟩)) (Blk.mk 26 true [Value.int .i64 3, Value.int .i64 row, Value.int .i64 col, Value.int .i64 n, Value.string t]) ?_
  refine md 4 (.pointer (some ⟨2, 0, none⟩)) (Blk.mk 24 true [Value.slice none 0 0, Value.slice none 0 0, Value.int .i64 0, Value.int .i64 0]) ?_
  refine WpOps.nil (thenK_at (Wp.seq ?_))
  refine Wp.region (by kernel_rfl) ?_
  refine kp 11 (.pointer (some ⟨0, 0, none⟩)) ?_
  refine kp 12 (.iface 9 (Value.iface (List.length (mkR R C f)) (Value.iface x (Value.agg (List.toArray (List.map Value.string (mkR R C f))))))) ?_
  refine kp 13 (.int IntKind.i64 (↑(List.length (mkR R C f)) : Int)) ?_
  refine kp 14 (.pointer (some ⟨0, 0, none⟩)) ?_
  refine kp 15 (.iface 9 (Value.iface (List.length (mkR R C f)) (Value.iface x (Value.agg (List.toArray (List.map Value.string (mkR R C f))))))) ?_
  refine kp 16 (.iface 9 (Value.iface 0 (Value.agg (List.toArray (List.map Value.string (mkR R C f)))))) ?_ (hop := fun _ => o_indexI (e := 9) (size := 1) (a := 0) l1)
  refine kp 17 (.string (rowAt (mkR R C f) 0)) ?_ (hop := fun _ => o_loadI1 (0) v1)
  refine kp 18 (.int IntKind.i64 (↑(ByteArray.size (rowAt (mkR R C f) 0)) : Int)) ?_
  refine kp 5 (.int IntKind.i64 (↑(List.length (mkR R C f)) : Int)) ?_
  refine kp 6 (.int IntKind.i64 (↑(ByteArray.size (rowAt (mkR R C f) 0)) : Int)) ?_
  refine WpOps.nil (thenK_at (Wp.seq ?_))
  refine Wp.region (by kernel_rfl) ?_
  refine kp 19 (.pointer (some ⟨0, 0, none⟩)) ?_
  refine kp 20 (.iface 9 (Value.iface (List.length (mkR R C f)) (Value.iface x (Value.agg (List.toArray (List.map Value.string (mkR R C f))))))) ?_
  refine clr 21 64 [strs x (mkR R C f)] ?_
  refine WpCall.lent [] (c1) (by decide) trivial (by kernel_rfl) (Value.slice (some (Addr.mk (List.getD [3] 0 0) 0 none)) R R) ([Blk.mk 9 true (List.map Value.string (mkR R C f))]) (.cons (unB_flat (by assumption)) .nil) (by kernel_rfl) (Heap.alloc (Heap.ro (Heap.alloc (Heap.alloc (Heap.alloc Heap.none (Blk.mk 24 true [strs x (mkR R C f), strs y (mkR R C g), Value.int IntKind.i64 i, Value.int IntKind.i64 j])) (Blk.mk 26 true [Value.int IntKind.i64 3, Value.int IntKind.i64 row, Value.int IntKind.i64 col, Value.int IntKind.i64 n, Value.string t])) (Blk.mk 24 true [Value.slice none 0 0, Value.slice none 0 0, Value.int IntKind.i64 0, Value.int IntKind.i64 0]))) (Blk.mk 9 true (List.map Value.string (mkR R C f)))) (by kernel_rfl) ?_
  refine kp 22 (.pointer (some ⟨0, 1, none⟩)) ?_
  refine kp 23 (.iface 9 (Value.iface (List.length (mkR R C g)) (Value.iface y (Value.agg (List.toArray (List.map Value.string (mkR R C g))))))) ?_
  refine cl 24 64 [strs y (mkR R C g)] ?_
  refine WpCall.lent [] (c2) (by decide) trivial (by kernel_rfl) (Value.slice (some (Addr.mk (List.getD [4] 0 0) 0 none)) R R) ([Blk.mk 9 true (List.map Value.string (mkR R C g))]) (.cons (unB_flat (by assumption)) .nil) (by kernel_rfl) (Heap.alloc (Heap.merge (Heap.alloc (Heap.alloc (Heap.alloc Heap.none (Blk.mk 24 true [strs x (mkR R C f), strs y (mkR R C g), Value.int IntKind.i64 i, Value.int IntKind.i64 j])) (Blk.mk 26 true [Value.int IntKind.i64 3, Value.int IntKind.i64 row, Value.int IntKind.i64 col, Value.int IntKind.i64 n, Value.string t])) (Blk.mk 24 true [Value.slice none 0 0, Value.slice none 0 0, Value.int IntKind.i64 0, Value.int IntKind.i64 0])) (Heap.alloc (Heap.ro (Heap.alloc (Heap.alloc (Heap.alloc Heap.none (Blk.mk 24 true [strs x (mkR R C f), strs y (mkR R C g), Value.int IntKind.i64 i, Value.int IntKind.i64 j])) (Blk.mk 26 true [Value.int IntKind.i64 3, Value.int IntKind.i64 row, Value.int IntKind.i64 col, Value.int IntKind.i64 n, Value.string t])) (Blk.mk 24 true [Value.slice none 0 0, Value.slice none 0 0, Value.int IntKind.i64 0, Value.int IntKind.i64 0]))) (Blk.mk 9 true (List.map Value.string (mkR R C f))))) (Blk.mk 9 true (List.map Value.string (mkR R C g)))) (by kernel_rfl) ?_
  refine kp 25 (.pointer (some ⟨0, 0, none⟩)) ?_
  refine ld (.tuple #[]) (0) (Blk.mk 24 true [Value.slice (some (Addr.mk (List.getD [3] 0 0) 0 none)) R R, strs y (mkR R C g), Value.int .i64 i, Value.int .i64 j]) ?_
  refine kp 26 (.pointer (some ⟨0, 1, none⟩)) ?_
  refine cg0 (.tuple #[]) (Heap.set (Heap.set (Heap.alloc (Heap.merge (Heap.alloc (Heap.alloc (Heap.alloc Heap.none (Blk.mk 24 true [strs x (mkR R C f), strs y (mkR R C g), Value.int .i64 i, Value.int .i64 j])) (Blk.mk 26 true [Value.int .i64 3, Value.int .i64 row, Value.int .i64 col, Value.int .i64 n, Value.string t])) (Blk.mk 24 true [Value.slice none 0 0, Value.slice none 0 0, Value.int .i64 0, Value.int .i64 0])) (Heap.alloc (Heap.ro (Heap.alloc (Heap.alloc (Heap.alloc Heap.none (Blk.mk 24 true [strs x (mkR R C f), strs y (mkR R C g), Value.int .i64 i, Value.int .i64 j])) (Blk.mk 26 true [Value.int .i64 3, Value.int .i64 row, Value.int .i64 col, Value.int .i64 n, Value.string t])) (Blk.mk 24 true [Value.slice none 0 0, Value.slice none 0 0, Value.int .i64 0, Value.int .i64 0]))) (Blk.mk 9 true (List.map Value.string (mkR R C f))))) (Blk.mk 9 true (List.map Value.string (mkR R C g)))) 0 (some (Blk.mk 24 true [Value.slice (some ⟨3, 0, none⟩) R R, strs y (mkR R C g), Value.int .i64 i, Value.int .i64 j]))) 0 (some (Blk.mk 24 true [Value.slice (some ⟨3, 0, none⟩) R R, Value.slice (some (Addr.mk (List.getD [4] 0 0) 0 none)) R R, Value.int .i64 i, Value.int .i64 j]))) ?_
  refine WpOps.nil (thenK_at (Wp.seq (Wp.text ?_)))
  refine kp 7 (.func (Fn.func 65) #[] #[]) ?_
  refine WpOps.nil (thenK_at (Wp.seq (Wp.seq (Wp.text ?_))))
  refine kp 27 (.pointer (some ⟨1, 0, none⟩)) ?_
  refine kp 28 (.int IntKind.i64 3) ?_
  refine WpOps.nil (thenK_at (Wp.block (Wp.seq (Wp.text ?_))))
  refine kp 30 (.bool false) ?_
  refine kp 29 (.bool false) ?_
  refine WpOps.nil (thenK_at (off' (Wp.seq (Wp.text ?_))))
  refine kp 38 (.bool false) ?_
  refine kp 37 (.bool false) ?_
  refine WpOps.nil (thenK_at (off' (Wp.seq (Wp.text ?_))))
  refine kp 45 (.bool false) ?_
  refine kp 44 (.bool false) ?_
  refine WpOps.nil (thenK_at (off' (Wp.seq (Wp.text ?_))))
  refine kp 58 (.bool true) ?_
  refine kp 57 (.bool true) ?_
  refine WpOps.nil (thenK_at (on' (Wp.seq (Wp.seq (Wp.text ?_)))))
  refine kp 59 (.int IntKind.i64 (↑(List.length (mkR R C f)) : Int)) ?_
  refine kp 60 (.int IntKind.i64 0) ?_
  refine WpOps.nil (thenK_at (Wp.block ?_))
  refine Wp.loop (G := Nat) (fun k => layj [(2, .pointer (some ⟨0, 0, none⟩)), (4, .pointer (some ⟨3, 0, none⟩)), (6, .int .i64 C), (7, .func (.func 65) #[] #[]), (59, .int .i64 R), (60, .int .i64 k)]) (fun k => heapOf [dB R R i j, sB (mkR R C (erF k 32 f)), sB (mkR R C (erF k 48 g)), ⟨24, true, [.slice none 0 0, .slice none 0 0, .int .i64 0, .int .i64 0]⟩]) (fun k => R - k) (fun k => k ≤ R) 0
    (View.of [0, 3, 4, 2] [dB R R i j, sB (mkR R C (erF 0 32 f)), sB (mkR R C (erF 0 48 g)), ⟨24, true, [.slice none 0 0, .slice none 0 0, .int .i64 0, .int .i64 0]⟩] _ (by decide) rfl ⟨⟨[.slice (some ⟨3, 0, none⟩) R R, .slice (some ⟨4, 0, none⟩) R R, .int .i64 i, .int .i64 j], by kernel_rfl, ⟨by kernel_rfl, by kernel_rfl⟩⟩, ⟨_, by kernel_rfl, CellsOk.eq (congrArg (List.map Value.string) z1) (strs_flat _)⟩, ⟨_, by kernel_rfl, CellsOk.eq (congrArg (List.map Value.string) z2) (strs_flat _)⟩, ⟨_, by kernel_rfl, CellsOk.eq rfl rfl⟩, trivial⟩
      ⟨⟨by kernel_rfl, rfl⟩, ⟨by kernel_rfl, rfl⟩, ⟨congrArg (Value.int .i64) e1, rfl⟩, ⟨by kernel_rfl, rfl⟩, ⟨congrArg (Value.int .i64) e2, rfl⟩, ⟨by kernel_rfl, rfl⟩, trivial⟩) (Nat.zero_le _) ?_
  intro k hk
  unfold dB sB
  refine Wp.seq (Wp.text ?_)
  refine kp 61 (.bool (decide ((↑k : Int) < (↑R : Int)))) ?_
  refine WpOps.nil (thenK_at (Wp.seq ?_))
  refine Wp.split (decide ((↑k : Int) < (↑R : Int))) (by kernel_rfl) (fun hc => ?_) (fun hc => ?_)
  · have hlt : (k : Int) < R := of_decide_eq_true hc
    have c3 : Lent E 65 [.int .i64 C] [] (.string (fillS 32 C)) [] := blank65 _ (by omega)
    have c4 : Lent E 67 [.pointer (some ⟨0, 0, none⟩), .int .i64 k, .int .i64 0, .string (fillS 32 C), .int .i64 0] (dBs R C (erF k 32 f) (erF k 48 g) i j) (.tuple #[]) (dBs R C (erF (k + 1) 32 f) (erF (k + 1) 48 g) i j) := by
      have h := putM R C (erF k 32 f) (erF k 48 g) i j k 0 0 (fillS 32 C) (by omega) hC (by rw [fillS_size]; omega) (by omega)
      have e48 : UInt8.ofNat (48 + 0) = 48 := rfl
      rw [fillS_size, e48, dBs_eq i j er_step er_step] at h
      exact h
    have fl3 := strs_flat (mkR R C (erF k 32 f))
    have fl4 := strs_flat (mkR R C (erF k 48 g))
    have fl5 := strs_flat (mkR R C (erF (k + 1) 32 f))
    have fl6 := strs_flat (mkR R C (erF (k + 1) 48 g))
    unfold dBs dB sB at c4
    refine Wp.skip (thenK_at (Wp.seq (Wp.block (Wp.seq (Wp.text ?_)))))
    refine kp 62 (.int IntKind.i64 (↑k : Int)) ?_
    refine kp 8 (.int IntKind.i64 (↑k : Int)) ?_
    refine WpOps.nil (thenK_at (Wp.text ?_))
    refine kp 63 (.int IntKind.i64 (↑k : Int)) ?_
    refine kp 64 (.func (Fn.func 65) #[] #[]) ?_
    refine kp 65 (.int IntKind.i64 (↑C : Int)) ?_
    refine cl 66 65 [Value.int .i64 (↑C : Int)] ?_
    refine WpCall.lent [] (c3) (by decide) trivial (by kernel_rfl) (Value.string (fillS 32 C)) ([]) .nil (by kernel_rfl) (heapOf [Blk.mk 24 true [Value.slice (some (Addr.mk 1 0 none)) R R, Value.slice (some (Addr.mk 2 0 none)) R R, Value.int IntKind.i64 i, Value.int IntKind.i64 j], Blk.mk 9 true (List.map Value.string (mkR R C (erF k 32 f))), Blk.mk 9 true (List.map Value.string (mkR R C (erF k 48 g))), Blk.mk 24 true [Value.slice none 0 0, Value.slice none 0 0, Value.int IntKind.i64 0, Value.int IntKind.i64 0]]) (by kernel_rfl) ?_
    refine cl 67 67 [Value.pointer (some ⟨0, 0, none⟩), Value.int .i64 (↑k : Int), Value.int .i64 0, Value.string (fillS 32 C), Value.int .i64 0] ?_
    refine WpCall.lent [0, 1, 2] (c4) (by decide) ⟨⟨[Value.slice (some (Addr.mk 1 0 none)) R R, Value.slice (some (Addr.mk 2 0 none)) R R, Value.int IntKind.i64 i, Value.int IntKind.i64 j], (by kernel_rfl), (by kernel_rfl), (by kernel_rfl)⟩, ⟨⟨_, (by kernel_rfl), CellsOk.eq rfl (by assumption)⟩, ⟨⟨_, (by kernel_rfl), CellsOk.eq rfl (by assumption)⟩, trivial⟩⟩⟩ (by kernel_rfl) (Value.tuple #[]) ([Blk.mk 24 true [Value.slice (some (Addr.mk (List.getD [0, 1, 2] 1 0) 0 none)) R R, Value.slice (some (Addr.mk (List.getD [0, 1, 2] 2 0) 0 none)) R R, Value.int IntKind.i64 i, Value.int IntKind.i64 j], Blk.mk 9 true (List.map Value.string (mkR R C (erF (k + 1) 32 f))), Blk.mk 9 true (List.map Value.string (mkR R C (erF (k + 1) 48 g)))]) (.cons (by kernel_rfl) (.cons (unB_flat (by assumption)) (.cons (unB_flat (by assumption)) .nil))) (by kernel_rfl) (Heap.set (Heap.set (Heap.set (heapOf [Blk.mk 24 true [Value.slice (some (Addr.mk 1 0 none)) R R, Value.slice (some (Addr.mk 2 0 none)) R R, Value.int IntKind.i64 i, Value.int IntKind.i64 j], Blk.mk 9 true (List.map Value.string (mkR R C (erF k 32 f))), Blk.mk 9 true (List.map Value.string (mkR R C (erF k 48 g))), Blk.mk 24 true [Value.slice none 0 0, Value.slice none 0 0, Value.int IntKind.i64 0, Value.int IntKind.i64 0]]) 0 (some (Blk.mk 24 true [Value.slice (some (Addr.mk 1 0 none)) R R, Value.slice (some (Addr.mk 2 0 none)) R R, Value.int IntKind.i64 i, Value.int IntKind.i64 j]))) 1 (some (Blk.mk 9 true (List.map Value.string (mkR R C (erF (k + 1) 32 f)))))) 2 (some (Blk.mk 9 true (List.map Value.string (mkR R C (erF (k + 1) 48 g)))))) (by kernel_rfl) ?_
    refine WpOps.nil (blockK_norm (thenK_at (Wp.text ?_)))
    refine kp 68 (.int IntKind.i64 (IntKind.wrap .i64 ((↑k : Int) + 1))) ?_
    refine kp 60 (.int IntKind.i64 (IntKind.wrap .i64 ((↑k : Int) + 1))) ?_
    refine WpOps.nil (thenK_at ?_)
    exact ⟨k + 1, by omega, by omega, View.of [0, 1, 2, 3] [dB R R i j, sB (mkR R C (erF (k + 1) 32 f)), sB (mkR R C (erF (k + 1) 48 g)), ⟨24, true, [.slice none 0 0, .slice none 0 0, .int .i64 0, .int .i64 0]⟩] _ (by decide) rfl ⟨⟨[.slice (some ⟨1, 0, none⟩) R R, .slice (some ⟨2, 0, none⟩) R R, .int .i64 i, .int .i64 j], by kernel_rfl, ⟨by kernel_rfl, by kernel_rfl⟩⟩, ⟨_, by kernel_rfl, CellsOk.eq rfl fl5⟩, ⟨_, by kernel_rfl, CellsOk.eq rfl fl6⟩, ⟨_, by kernel_rfl, CellsOk.eq rfl rfl⟩, trivial⟩
      ⟨⟨by kernel_rfl, rfl⟩, ⟨by kernel_rfl, rfl⟩, ⟨by kernel_rfl, rfl⟩, ⟨by kernel_rfl, rfl⟩, ⟨by kernel_rfl, rfl⟩, ⟨congrArg (Value.int .i64) (wr _ (by omega) (by omega)), rfl⟩, trivial⟩⟩
  · have hle : ¬ ((k : Int) < R) := of_decide_eq_false hc
    obtain rfl : k = R := by omega
    have q1 : mkR k C (erF k 32 f) = mkR k C (fun _ _ => 32) := mkR_congr fun a b ha _ => if_pos ha
    have q2 : mkR k C (erF k 48 g) = mkR k C (fun _ _ => 48) := mkR_congr fun a b ha _ => if_pos ha
    refine Wp.exit (thenK_exit (thenK_exit (blockK_hit (thenK_at (Wp.text ?_)))))
    refine kp 69 (.pointer (some ⟨0, 2, none⟩)) ?_
    refine ld (.tuple #[]) (0) (Blk.mk 24 true [Value.slice (some ⟨1, 0, none⟩) k k, Value.slice (some ⟨2, 0, none⟩) k k, Value.int .i64 0, Value.int .i64 j]) ?_
    refine kp 70 (.pointer (some ⟨0, 3, none⟩)) ?_
    refine ld (.tuple #[]) (0) (Blk.mk 24 true [Value.slice (some ⟨1, 0, none⟩) k k, Value.slice (some ⟨2, 0, none⟩) k k, Value.int .i64 0, Value.int .i64 0]) ?_
    refine WpOps.nil (blockK_norm (thenK_at (Wp.seq (Wp.text ?_))))
    refine kp 123 (.agg #[Value.slice (some ⟨1, 0, none⟩) k k, Value.slice (some ⟨2, 0, none⟩) k k, Value.int .i64 0, Value.int .i64 0]) ?_
    refine ld (.tuple #[]) (3) (Blk.mk 24 true [Value.slice (some ⟨1, 0, none⟩) k k, Value.slice (some ⟨2, 0, none⟩) k k, Value.int .i64 0, Value.int .i64 0]) ?_
    refine WpOps.nil (thenK_at (Wp.ret ?_))
    refine endK_retn [Value.agg #[Value.slice (some (Addr.mk 1 0 none)) k k, Value.slice (some (Addr.mk 2 0 none)) k k, Value.int IntKind.i64 0, Value.int IntKind.i64 0]] (Value.agg #[Value.slice (some (Addr.mk 1 0 none)) k k, Value.slice (some (Addr.mk 2 0 none)) k k, Value.int IntKind.i64 0, Value.int IntKind.i64 0]) (by kernel_rfl) (by kernel_rfl) ?_
    exact ice_dv (mkR k C (fun _ _ => 32)) (mkR k C (fun _ _ => 48)) 0 0 mkR_len.symm mkR_len.symm (by rw [← q1]; kernel_rfl) (by rw [← q2]; kernel_rfl)
end Go.Proofs.Ytlejgfeoffhjoaa.D
