/- ref.apply, one kind of update after the other. -/
import Derived.Test.YtlejgfeoffhjoaaFwLem
import Derived.Test.YtlejgfeoffhjoaaF34r
namespace Go.Proofs.Ytlejgfeoffhjoaa.D
open Go.Fw Go.RowKit

theorem f42 : E.funcs 42 = some Try.f42 := by kernel_rfl
theorem own68m (x y R C : Nat) (f g : Nat → Nat → UInt8) (i j : Int) (hR : 1 ≤ R) (hR2 : R ≤ 40) :
    Lent E 68 [dv x y (mkR R C f) (mkR R C g) i j] [] (.agg #[.slice (some ⟨0, 0, none⟩) R R, .slice (some ⟨1, 0, none⟩) R R, .int .i64 i, .int .i64 j]) [sB (mkR R C f), sB (mkR R C g)] := by
  have h := own68 x y (mkR R C f) (mkR R C g) i j (by rw [mkR_len]; exact hR) (by rw [mkR_len]; omega) (by rw [mkR_len]; exact hR) (by rw [mkR_len]; omega)
  rwa [mkR_len, mkR_len] at h
set_option maxHeartbeats 4000000 in
theorem rapply4 (x y R C : Nat) (f g : Nat → Nat → UInt8) (i j row col n : Int) (t : ByteArray) (h0 : 1 ≤ R) (hR : R ≤ 40) : Fun E 42 [dv x y (mkR R C f) (mkR R C g) i j, uv 4 row col n t] (dv 0 0 (mkR R C f) (mkR R C g) i j) := by
  refine Fun.of f42 rfl (of_decide_eq_true (by kernel_rfl)) (dv_ice _ _ _ _ _ _) ?_
  have c1 := own68m x y R C f g i j h0 hR
  have l1 : 0 ≤ (0 : Int) ∧ (0 : Int) < (mkR R C f).length := by rw [mkR_len]; omega
  have v1 := strs_0 (mkR R C f) (by rw [mkR_len]; omega)
  have fl1 := strs_flat (mkR R C f)
  have fl2 := strs_flat (mkR R C g)
  unfold dv strs sB at c1
  unfold dv uv strs
  refine Wp.seq (Wp.text ?_)
  refine md 2 (.pointer (some ⟨0, 0, none⟩)) (Blk.mk 30 true [Value.iface 9 (Value.iface (List.length (mkR R C f)) (Value.iface x (Value.agg (List.toArray (List.map Value.string (mkR R C f)))))), Value.iface 9 (Value.iface (List.length (mkR R C g)) (Value.iface y (Value.agg (List.toArray (List.map Value.string (mkR R C g)))))), Value.int .i64 i, Value.int .i64 j]) ?_
  refine md 3 (.pointer (some ⟨1, 0, none⟩)) (Blk.mk 34 true [Value.int .i64 4, Value.int .i64 row, Value.int .i64 col, Value.int .i64 n, Value.string t]) ?_
  refine md 4 (.pointer (some ⟨2, 0, none⟩)) (Blk.mk 30 true [Value.slice none 0 0, Value.slice none 0 0, Value.int .i64 0, Value.int .i64 0]) ?_
  refine WpOps.nil (thenK_at (Wp.seq (Wp.text ?_)))
  refine kp 14 (.agg #[Value.iface 9 (Value.iface (List.length (mkR R C f)) (Value.iface x (Value.agg (List.toArray (List.map Value.string (mkR R C f)))))), Value.iface 9 (Value.iface (List.length (mkR R C g)) (Value.iface y (Value.agg (List.toArray (List.map Value.string (mkR R C g)))))), Value.int .i64 i, Value.int .i64 j]) ?_
  refine cl 15 68 [Value.agg #[Value.iface 9 (Value.iface (List.length (mkR R C f)) (Value.iface x (Value.agg (List.toArray (List.map Value.string (mkR R C f)))))), Value.iface 9 (Value.iface (List.length (mkR R C g)) (Value.iface y (Value.agg (List.toArray (List.map Value.string (mkR R C g)))))), Value.int .i64 i, Value.int .i64 j]] ?_
  refine WpCall.lent [] (c1) (by decide) trivial (by kernel_rfl) (Value.agg (List.toArray (List.map (unC [3, 4]) (Array.toList #[Value.slice (some (Addr.mk 0 0 none)) R R, Value.slice (some (Addr.mk 1 0 none)) R R, Value.int IntKind.i64 i, Value.int IntKind.i64 j])))) ([Blk.mk 9 true (List.map Value.string (mkR R C f)), Blk.mk 9 true (List.map Value.string (mkR R C g))]) (.cons (unB_flat (by assumption)) (.cons (unB_flat (by assumption)) .nil)) (by kernel_rfl) (Heap.alloc (Heap.alloc (Heap.alloc (Heap.alloc (Heap.alloc Heap.none (Blk.mk 30 true [Value.iface 9 (Value.iface (List.length (mkR R C f)) (Value.iface x (Value.agg (List.toArray (List.map Value.string (mkR R C f)))))), Value.iface 9 (Value.iface (List.length (mkR R C g)) (Value.iface y (Value.agg (List.toArray (List.map Value.string (mkR R C g)))))), Value.int IntKind.i64 i, Value.int IntKind.i64 j])) (Blk.mk 34 true [Value.int IntKind.i64 4, Value.int IntKind.i64 row, Value.int IntKind.i64 col, Value.int IntKind.i64 n, Value.string t])) (Blk.mk 30 true [Value.slice none 0 0, Value.slice none 0 0, Value.int IntKind.i64 0, Value.int IntKind.i64 0])) (Blk.mk 9 true (List.map Value.string (mkR R C f)))) (Blk.mk 9 true (List.map Value.string (mkR R C g)))) (by kernel_rfl) ?_
  refine md 5 (.pointer (some ⟨5, 0, none⟩)) (Blk.mk 30 true [Value.slice none 0 0, Value.slice none 0 0, Value.int .i64 0, Value.int .i64 0]) ?_
  refine ld (.tuple #[]) (5) (Blk.mk 30 true [Value.slice (some (Addr.mk (List.getD [3, 4] 0 0) 0 none)) R R, Value.slice (some (Addr.mk (List.getD [3, 4] 1 0) 0 none)) R R, Value.int .i64 i, Value.int .i64 j]) ?_
  refine WpOps.nil (thenK_at (Wp.seq ?_))
  refine Wp.region (by kernel_rfl) ?_
  refine kp 16 (.pointer (some ⟨0, 0, none⟩)) ?_
  refine kp 17 (.iface 9 (Value.iface (List.length (mkR R C f)) (Value.iface x (Value.agg (List.toArray (List.map Value.string (mkR R C f))))))) ?_
  refine kp 18 (.int IntKind.i64 (↑(List.length (mkR R C f)) : Int)) ?_
  refine kp 19 (.pointer (some ⟨0, 0, none⟩)) ?_
  refine kp 20 (.iface 9 (Value.iface (List.length (mkR R C f)) (Value.iface x (Value.agg (List.toArray (List.map Value.string (mkR R C f))))))) ?_
  refine kp 21 (.iface 9 (Value.iface 0 (Value.agg (List.toArray (List.map Value.string (mkR R C f)))))) ?_ (hop := fun _ => o_indexI (e := 9) (size := 1) (a := 0) l1)
  refine kp 22 (.string (rowAt (mkR R C f) 0)) ?_ (hop := fun _ => o_loadI1 (0) v1)
  refine kp 23 (.int IntKind.i64 (↑(ByteArray.size (rowAt (mkR R C f) 0)) : Int)) ?_
  refine kp 6 (.int IntKind.i64 (↑(List.length (mkR R C f)) : Int)) ?_
  refine kp 7 (.int IntKind.i64 (↑(ByteArray.size (rowAt (mkR R C f) 0)) : Int)) ?_
  refine WpOps.nil (thenK_at (Wp.seq (Wp.seq (Wp.text ?_))))
  refine kp 24 (.pointer (some ⟨1, 0, none⟩)) ?_
  refine kp 25 (.int IntKind.i64 4) ?_
  refine WpOps.nil (thenK_at (Wp.block (Wp.seq (Wp.text ?_))))
  refine kp 27 (.bool false) ?_
  refine kp 26 (.bool false) ?_
  refine WpOps.nil (thenK_at (off' (Wp.seq (Wp.text ?_))))
  refine kp 35 (.bool false) ?_
  refine kp 34 (.bool false) ?_
  refine WpOps.nil (thenK_at (off' (Wp.seq (Wp.text ?_))))
  refine kp 95 (.bool false) ?_
  refine kp 94 (.bool false) ?_
  refine WpOps.nil (thenK_at (off' (Wp.seq (Wp.text ?_))))
  refine kp 108 (.bool false) ?_
  refine kp 107 (.bool false) ?_
  refine WpOps.nil (thenK_at (off' (Wp.seq (Wp.text ?_))))
  refine kp 113 (.bool false) ?_
  refine kp 112 (.bool false) ?_
  refine WpOps.nil (thenK_at (off' (Wp.seq (Wp.text ?_))))
  refine kp 141 (.bool false) ?_
  refine kp 140 (.bool false) ?_
  refine WpOps.nil (thenK_at (off' (Wp.skip (blockK_norm (thenK_at (Wp.seq (Wp.text ?_)))))))
  refine kp 174 (.agg #[Value.slice (some ⟨3, 0, none⟩) R R, Value.slice (some ⟨4, 0, none⟩) R R, Value.int .i64 i, Value.int .i64 j]) ?_
  refine cg0 (.tuple #[]) (Heap.set (Heap.set (Heap.alloc (Heap.alloc (Heap.alloc (Heap.alloc (Heap.alloc (Heap.alloc Heap.none (Blk.mk 30 true [Value.iface 9 (Value.iface (List.length (mkR R C f)) (Value.iface x (Value.agg (List.toArray (List.map Value.string (mkR R C f)))))), Value.iface 9 (Value.iface (List.length (mkR R C g)) (Value.iface y (Value.agg (List.toArray (List.map Value.string (mkR R C g)))))), Value.int .i64 i, Value.int .i64 j])) (Blk.mk 34 true [Value.int .i64 4, Value.int .i64 row, Value.int .i64 col, Value.int .i64 n, Value.string t])) (Blk.mk 30 true [Value.slice none 0 0, Value.slice none 0 0, Value.int .i64 0, Value.int .i64 0])) (Blk.mk 9 true (List.map Value.string (mkR R C f)))) (Blk.mk 9 true (List.map Value.string (mkR R C g)))) (Blk.mk 30 true [Value.slice none 0 0, Value.slice none 0 0, Value.int .i64 0, Value.int .i64 0])) 5 (some (Blk.mk 30 true [Value.slice (some ⟨3, 0, none⟩) R R, Value.slice (some ⟨4, 0, none⟩) R R, Value.int .i64 i, Value.int .i64 j]))) 2 (some (Blk.mk 30 true [Value.slice (some ⟨3, 0, none⟩) R R, Value.slice (some ⟨4, 0, none⟩) R R, Value.int .i64 i, Value.int .i64 j]))) ?_
  refine WpOps.nil (thenK_at (Wp.ret ?_))
  refine endK_retn [Value.agg #[Value.slice (some (Addr.mk 3 0 none)) R R, Value.slice (some (Addr.mk 4 0 none)) R R, Value.int IntKind.i64 i, Value.int IntKind.i64 j]] (Value.agg #[Value.slice (some (Addr.mk 3 0 none)) R R, Value.slice (some (Addr.mk 4 0 none)) R R, Value.int IntKind.i64 i, Value.int IntKind.i64 j]) (by kernel_rfl) (by kernel_rfl) ?_
  exact ice_dv (mkR R C f) (mkR R C g) i j mkR_len.symm mkR_len.symm (by kernel_rfl) (by kernel_rfl)
set_option maxHeartbeats 4000000 in
theorem rapply0 (x y R C : Nat) (f g : Nat → Nat → UInt8) (i j row col n : Int) (t : ByteArray) (h0 : 1 ≤ R) (hR : R ≤ 40) : Fun E 42 [dv x y (mkR R C f) (mkR R C g) i j, uv 0 row col n t] (dv 0 0 (mkR R C f) (mkR R C g) row col) := by
  refine Fun.of f42 rfl (of_decide_eq_true (by kernel_rfl)) (dv_ice _ _ _ _ _ _) ?_
  have c1 := own68m x y R C f g i j h0 hR
  have l1 : 0 ≤ (0 : Int) ∧ (0 : Int) < (mkR R C f).length := by rw [mkR_len]; omega
  have v1 := strs_0 (mkR R C f) (by rw [mkR_len]; omega)
  have fl1 := strs_flat (mkR R C f)
  have fl2 := strs_flat (mkR R C g)
  unfold dv strs sB at c1
  unfold dv uv strs
  refine Wp.seq (Wp.text ?_)
  refine md 2 (.pointer (some ⟨0, 0, none⟩)) (Blk.mk 30 true [Value.iface 9 (Value.iface (List.length (mkR R C f)) (Value.iface x (Value.agg (List.toArray (List.map Value.string (mkR R C f)))))), Value.iface 9 (Value.iface (List.length (mkR R C g)) (Value.iface y (Value.agg (List.toArray (List.map Value.string (mkR R C g)))))), Value.int .i64 i, Value.int .i64 j]) ?_
  refine md 3 (.pointer (some ⟨1, 0, none⟩)) (Blk.mk 34 true [Value.int .i64 0, Value.int .i64 row, Value.int .i64 col, Value.int .i64 n, Value.string t]) ?_
  refine md 4 (.pointer (some ⟨2, 0, none⟩)) (Blk.mk 30 true [Value.slice none 0 0, Value.slice none 0 0, Value.int .i64 0, Value.int .i64 0]) ?_
  refine WpOps.nil (thenK_at (Wp.seq (Wp.text ?_)))
  refine kp 14 (.agg #[Value.iface 9 (Value.iface (List.length (mkR R C f)) (Value.iface x (Value.agg (List.toArray (List.map Value.string (mkR R C f)))))), Value.iface 9 (Value.iface (List.length (mkR R C g)) (Value.iface y (Value.agg (List.toArray (List.map Value.string (mkR R C g)))))), Value.int .i64 i, Value.int .i64 j]) ?_
  refine cl 15 68 [Value.agg #[Value.iface 9 (Value.iface (List.length (mkR R C f)) (Value.iface x (Value.agg (List.toArray (List.map Value.string (mkR R C f)))))), Value.iface 9 (Value.iface (List.length (mkR R C g)) (Value.iface y (Value.agg (List.toArray (List.map Value.string (mkR R C g)))))), Value.int .i64 i, Value.int .i64 j]] ?_
  refine WpCall.lent [] (c1) (by decide) trivial (by kernel_rfl) (Value.agg (List.toArray (List.map (unC [3, 4]) (Array.toList #[Value.slice (some (Addr.mk 0 0 none)) R R, Value.slice (some (Addr.mk 1 0 none)) R R, Value.int IntKind.i64 i, Value.int IntKind.i64 j])))) ([Blk.mk 9 true (List.map Value.string (mkR R C f)), Blk.mk 9 true (List.map Value.string (mkR R C g))]) (.cons (unB_flat (by assumption)) (.cons (unB_flat (by assumption)) .nil)) (by kernel_rfl) (Heap.alloc (Heap.alloc (Heap.alloc (Heap.alloc (Heap.alloc Heap.none (Blk.mk 30 true [Value.iface 9 (Value.iface (List.length (mkR R C f)) (Value.iface x (Value.agg (List.toArray (List.map Value.string (mkR R C f)))))), Value.iface 9 (Value.iface (List.length (mkR R C g)) (Value.iface y (Value.agg (List.toArray (List.map Value.string (mkR R C g)))))), Value.int IntKind.i64 i, Value.int IntKind.i64 j])) (Blk.mk 34 true [Value.int IntKind.i64 0, Value.int IntKind.i64 row, Value.int IntKind.i64 col, Value.int IntKind.i64 n, Value.string t])) (Blk.mk 30 true [Value.slice none 0 0, Value.slice none 0 0, Value.int IntKind.i64 0, Value.int IntKind.i64 0])) (Blk.mk 9 true (List.map Value.string (mkR R C f)))) (Blk.mk 9 true (List.map Value.string (mkR R C g)))) (by kernel_rfl) ?_
  refine md 5 (.pointer (some ⟨5, 0, none⟩)) (Blk.mk 30 true [Value.slice none 0 0, Value.slice none 0 0, Value.int .i64 0, Value.int .i64 0]) ?_
  refine ld (.tuple #[]) (5) (Blk.mk 30 true [Value.slice (some (Addr.mk (List.getD [3, 4] 0 0) 0 none)) R R, Value.slice (some (Addr.mk (List.getD [3, 4] 1 0) 0 none)) R R, Value.int .i64 i, Value.int .i64 j]) ?_
  refine WpOps.nil (thenK_at (Wp.seq ?_))
  refine Wp.region (by kernel_rfl) ?_
  refine kp 16 (.pointer (some ⟨0, 0, none⟩)) ?_
  refine kp 17 (.iface 9 (Value.iface (List.length (mkR R C f)) (Value.iface x (Value.agg (List.toArray (List.map Value.string (mkR R C f))))))) ?_
  refine kp 18 (.int IntKind.i64 (↑(List.length (mkR R C f)) : Int)) ?_
  refine kp 19 (.pointer (some ⟨0, 0, none⟩)) ?_
  refine kp 20 (.iface 9 (Value.iface (List.length (mkR R C f)) (Value.iface x (Value.agg (List.toArray (List.map Value.string (mkR R C f))))))) ?_
  refine kp 21 (.iface 9 (Value.iface 0 (Value.agg (List.toArray (List.map Value.string (mkR R C f)))))) ?_ (hop := fun _ => o_indexI (e := 9) (size := 1) (a := 0) l1)
  refine kp 22 (.string (rowAt (mkR R C f) 0)) ?_ (hop := fun _ => o_loadI1 (0) v1)
  refine kp 23 (.int IntKind.i64 (↑(ByteArray.size (rowAt (mkR R C f) 0)) : Int)) ?_
  refine kp 6 (.int IntKind.i64 (↑(List.length (mkR R C f)) : Int)) ?_
  refine kp 7 (.int IntKind.i64 (↑(ByteArray.size (rowAt (mkR R C f) 0)) : Int)) ?_
  refine WpOps.nil (thenK_at (Wp.seq (Wp.seq (Wp.text ?_))))
  refine kp 24 (.pointer (some ⟨1, 0, none⟩)) ?_
  refine kp 25 (.int IntKind.i64 0) ?_
  refine WpOps.nil (thenK_at (Wp.block (Wp.seq (Wp.text ?_))))
  refine kp 27 (.bool true) ?_
  refine kp 26 (.bool true) ?_
  refine WpOps.nil (thenK_at (on' (Wp.seq (Wp.text ?_))))
  refine kp 28 (.pointer (some ⟨1, 1, none⟩)) ?_
  refine kp 29 (.int IntKind.i64 row) ?_
  refine kp 30 (.pointer (some ⟨5, 2, none⟩)) ?_
  refine cg0 (.tuple #[]) (Heap.set (Heap.set (Heap.alloc (Heap.alloc (Heap.alloc (Heap.alloc (Heap.alloc (Heap.alloc Heap.none (Blk.mk 30 true [Value.iface 9 (Value.iface (List.length (mkR R C f)) (Value.iface x (Value.agg (List.toArray (List.map Value.string (mkR R C f)))))), Value.iface 9 (Value.iface (List.length (mkR R C g)) (Value.iface y (Value.agg (List.toArray (List.map Value.string (mkR R C g)))))), Value.int .i64 i, Value.int .i64 j])) (Blk.mk 34 true [Value.int .i64 0, Value.int .i64 row, Value.int .i64 col, Value.int .i64 n, Value.string t])) (Blk.mk 30 true [Value.slice none 0 0, Value.slice none 0 0, Value.int .i64 0, Value.int .i64 0])) (Blk.mk 9 true (List.map Value.string (mkR R C f)))) (Blk.mk 9 true (List.map Value.string (mkR R C g)))) (Blk.mk 30 true [Value.slice none 0 0, Value.slice none 0 0, Value.int .i64 0, Value.int .i64 0])) 5 (some (Blk.mk 30 true [Value.slice (some ⟨3, 0, none⟩) R R, Value.slice (some ⟨4, 0, none⟩) R R, Value.int .i64 i, Value.int .i64 j]))) 5 (some (Blk.mk 30 true [Value.slice (some ⟨3, 0, none⟩) R R, Value.slice (some ⟨4, 0, none⟩) R R, Value.int .i64 row, Value.int .i64 j]))) ?_
  refine WpOps.nil (thenK_at (Wp.text ?_))
  refine kp 31 (.pointer (some ⟨1, 2, none⟩)) ?_
  refine kp 32 (.int IntKind.i64 col) ?_
  refine kp 33 (.pointer (some ⟨5, 3, none⟩)) ?_
  refine ld (.tuple #[]) (5) (Blk.mk 30 true [Value.slice (some ⟨3, 0, none⟩) R R, Value.slice (some ⟨4, 0, none⟩) R R, Value.int .i64 row, Value.int .i64 col]) ?_
  refine WpOps.nil (blockK_norm (thenK_at (Wp.seq (Wp.text ?_))))
  refine kp 174 (.agg #[Value.slice (some ⟨3, 0, none⟩) R R, Value.slice (some ⟨4, 0, none⟩) R R, Value.int .i64 row, Value.int .i64 col]) ?_
  refine ld (.tuple #[]) (2) (Blk.mk 30 true [Value.slice (some ⟨3, 0, none⟩) R R, Value.slice (some ⟨4, 0, none⟩) R R, Value.int .i64 row, Value.int .i64 col]) ?_
  refine WpOps.nil (thenK_at (Wp.ret ?_))
  refine endK_retn [Value.agg #[Value.slice (some (Addr.mk 3 0 none)) R R, Value.slice (some (Addr.mk 4 0 none)) R R, Value.int IntKind.i64 row, Value.int IntKind.i64 col]] (Value.agg #[Value.slice (some (Addr.mk 3 0 none)) R R, Value.slice (some (Addr.mk 4 0 none)) R R, Value.int IntKind.i64 row, Value.int IntKind.i64 col]) (by kernel_rfl) (by kernel_rfl) ?_
  exact ice_dv (mkR R C f) (mkR R C g) row col mkR_len.symm mkR_len.symm (by kernel_rfl) (by kernel_rfl)
set_option maxHeartbeats 4000000 in
theorem rapply3 (x y R C : Nat) (f g : Nat → Nat → UInt8) (i j row col n : Int) (t : ByteArray) (h0 : 1 ≤ R) (hR : R ≤ 40) (hC : C ≤ 80) : Fun E 42 [dv x y (mkR R C f) (mkR R C g) i j, uv 3 row col n t] (dv 0 0 (mkR R C (fun _ _ => 32)) (mkR R C (fun _ _ => 48)) 0 0) := by
  refine Fun.of f42 rfl (of_decide_eq_true (by kernel_rfl)) (dv_ice _ _ _ _ _ _) ?_
  have c1 := own68m x y R C f g i j h0 hR
  have l1 : 0 ≤ (0 : Int) ∧ (0 : Int) < (mkR R C f).length := by rw [mkR_len]; omega
  have v1 := strs_0 (mkR R C f) (by rw [mkR_len]; omega)
  have fl1 := strs_flat (mkR R C f)
  have fl2 := strs_flat (mkR R C g)
  have e0 : (rowAt (mkR R C f) 0).size = C := mkR_size (by omega)
  have c2 : Fun E 46 [.int .i64 (mkR R C f).length, .int .i64 (rowAt (mkR R C f) 0).size] (dv 0 0 (mkR R C (fun _ _ => 32)) (mkR R C (fun _ _ => 48)) 0 0) := by rw [mkR_len, e0]; exact blank46 R C h0 hR hC
  unfold dv strs sB at c1
  unfold dv strs at c2
  unfold dv uv strs
  refine Wp.seq (Wp.text ?_)
  refine md 2 (.pointer (some ⟨0, 0, none⟩)) (Blk.mk 30 true [Value.iface 9 (Value.iface (List.length (mkR R C f)) (Value.iface x (Value.agg (List.toArray (List.map Value.string (mkR R C f)))))), Value.iface 9 (Value.iface (List.length (mkR R C g)) (Value.iface y (Value.agg (List.toArray (List.map Value.string (mkR R C g)))))), Value.int .i64 i, Value.int .i64 j]) ?_
  refine md 3 (.pointer (some ⟨1, 0, none⟩)) (Blk.mk 34 true [Value.int .i64 3, Value.int .i64 row, Value.int .i64 col, Value.int .i64 n, Value.string t]) ?_
  refine md 4 (.pointer (some ⟨2, 0, none⟩)) (Blk.mk 30 true [Value.slice none 0 0, Value.slice none 0 0, Value.int .i64 0, Value.int .i64 0]) ?_
  refine WpOps.nil (thenK_at (Wp.seq (Wp.text ?_)))
  refine kp 14 (.agg #[Value.iface 9 (Value.iface (List.length (mkR R C f)) (Value.iface x (Value.agg (List.toArray (List.map Value.string (mkR R C f)))))), Value.iface 9 (Value.iface (List.length (mkR R C g)) (Value.iface y (Value.agg (List.toArray (List.map Value.string (mkR R C g)))))), Value.int .i64 i, Value.int .i64 j]) ?_
  refine cl 15 68 [Value.agg #[Value.iface 9 (Value.iface (List.length (mkR R C f)) (Value.iface x (Value.agg (List.toArray (List.map Value.string (mkR R C f)))))), Value.iface 9 (Value.iface (List.length (mkR R C g)) (Value.iface y (Value.agg (List.toArray (List.map Value.string (mkR R C g)))))), Value.int .i64 i, Value.int .i64 j]] ?_
  refine WpCall.lent [] (c1) (by decide) trivial (by kernel_rfl) (Value.agg (List.toArray (List.map (unC [3, 4]) (Array.toList #[Value.slice (some (Addr.mk 0 0 none)) R R, Value.slice (some (Addr.mk 1 0 none)) R R, Value.int IntKind.i64 i, Value.int IntKind.i64 j])))) ([Blk.mk 9 true (List.map Value.string (mkR R C f)), Blk.mk 9 true (List.map Value.string (mkR R C g))]) (.cons (unB_flat (by assumption)) (.cons (unB_flat (by assumption)) .nil)) (by kernel_rfl) (Heap.alloc (Heap.alloc (Heap.alloc (Heap.alloc (Heap.alloc Heap.none (Blk.mk 30 true [Value.iface 9 (Value.iface (List.length (mkR R C f)) (Value.iface x (Value.agg (List.toArray (List.map Value.string (mkR R C f)))))), Value.iface 9 (Value.iface (List.length (mkR R C g)) (Value.iface y (Value.agg (List.toArray (List.map Value.string (mkR R C g)))))), Value.int IntKind.i64 i, Value.int IntKind.i64 j])) (Blk.mk 34 true [Value.int IntKind.i64 3, Value.int IntKind.i64 row, Value.int IntKind.i64 col, Value.int IntKind.i64 n, Value.string t])) (Blk.mk 30 true [Value.slice none 0 0, Value.slice none 0 0, Value.int IntKind.i64 0, Value.int IntKind.i64 0])) (Blk.mk 9 true (List.map Value.string (mkR R C f)))) (Blk.mk 9 true (List.map Value.string (mkR R C g)))) (by kernel_rfl) ?_
  refine md 5 (.pointer (some ⟨5, 0, none⟩)) (Blk.mk 30 true [Value.slice none 0 0, Value.slice none 0 0, Value.int .i64 0, Value.int .i64 0]) ?_
  refine ld (.tuple #[]) (5) (Blk.mk 30 true [Value.slice (some (Addr.mk (List.getD [3, 4] 0 0) 0 none)) R R, Value.slice (some (Addr.mk (List.getD [3, 4] 1 0) 0 none)) R R, Value.int .i64 i, Value.int .i64 j]) ?_
  refine WpOps.nil (thenK_at (Wp.seq ?_))
  refine Wp.region (by kernel_rfl) ?_
  refine kp 16 (.pointer (some ⟨0, 0, none⟩)) ?_
  refine kp 17 (.iface 9 (Value.iface (List.length (mkR R C f)) (Value.iface x (Value.agg (List.toArray (List.map Value.string (mkR R C f))))))) ?_
  refine kp 18 (.int IntKind.i64 (↑(List.length (mkR R C f)) : Int)) ?_
  refine kp 19 (.pointer (some ⟨0, 0, none⟩)) ?_
  refine kp 20 (.iface 9 (Value.iface (List.length (mkR R C f)) (Value.iface x (Value.agg (List.toArray (List.map Value.string (mkR R C f))))))) ?_
  refine kp 21 (.iface 9 (Value.iface 0 (Value.agg (List.toArray (List.map Value.string (mkR R C f)))))) ?_ (hop := fun _ => o_indexI (e := 9) (size := 1) (a := 0) l1)
  refine kp 22 (.string (rowAt (mkR R C f) 0)) ?_ (hop := fun _ => o_loadI1 (0) v1)
  refine kp 23 (.int IntKind.i64 (↑(ByteArray.size (rowAt (mkR R C f) 0)) : Int)) ?_
  refine kp 6 (.int IntKind.i64 (↑(List.length (mkR R C f)) : Int)) ?_
  refine kp 7 (.int IntKind.i64 (↑(ByteArray.size (rowAt (mkR R C f) 0)) : Int)) ?_
  refine WpOps.nil (thenK_at (Wp.seq (Wp.seq (Wp.text ?_))))
  refine kp 24 (.pointer (some ⟨1, 0, none⟩)) ?_
  refine kp 25 (.int IntKind.i64 3) ?_
  refine WpOps.nil (thenK_at (Wp.block (Wp.seq (Wp.text ?_))))
  refine kp 27 (.bool false) ?_
  refine kp 26 (.bool false) ?_
  refine WpOps.nil (thenK_at (off' (Wp.seq (Wp.text ?_))))
  refine kp 35 (.bool false) ?_
  refine kp 34 (.bool false) ?_
  refine WpOps.nil (thenK_at (off' (Wp.seq (Wp.text ?_))))
  refine kp 95 (.bool false) ?_
  refine kp 94 (.bool false) ?_
  refine WpOps.nil (thenK_at (off' (Wp.seq (Wp.text ?_))))
  refine kp 108 (.bool true) ?_
  refine kp 107 (.bool true) ?_
  refine WpOps.nil (thenK_at (on' (Wp.seq (Wp.text ?_))))
  refine kp 109 (.int IntKind.i64 (↑(List.length (mkR R C f)) : Int)) ?_
  refine kp 110 (.int IntKind.i64 (↑(ByteArray.size (rowAt (mkR R C f) 0)) : Int)) ?_
  refine fr 111 46 [Value.int .i64 (↑(List.length (mkR R C f)) : Int), Value.int .i64 (↑(ByteArray.size (rowAt (mkR R C f) 0)) : Int)] ?_
  refine WpFun.of (c2) ?_
  refine cg0 (.tuple #[]) (Heap.set (Heap.set (Heap.alloc (Heap.alloc (Heap.alloc (Heap.alloc (Heap.alloc (Heap.alloc Heap.none (Blk.mk 30 true [Value.iface 9 (Value.iface (List.length (mkR R C f)) (Value.iface x (Value.agg (List.toArray (List.map Value.string (mkR R C f)))))), Value.iface 9 (Value.iface (List.length (mkR R C g)) (Value.iface y (Value.agg (List.toArray (List.map Value.string (mkR R C g)))))), Value.int .i64 i, Value.int .i64 j])) (Blk.mk 34 true [Value.int .i64 3, Value.int .i64 row, Value.int .i64 col, Value.int .i64 n, Value.string t])) (Blk.mk 30 true [Value.slice none 0 0, Value.slice none 0 0, Value.int .i64 0, Value.int .i64 0])) (Blk.mk 9 true (List.map Value.string (mkR R C f)))) (Blk.mk 9 true (List.map Value.string (mkR R C g)))) (Blk.mk 30 true [Value.slice none 0 0, Value.slice none 0 0, Value.int .i64 0, Value.int .i64 0])) 5 (some (Blk.mk 30 true [Value.slice (some ⟨3, 0, none⟩) R R, Value.slice (some ⟨4, 0, none⟩) R R, Value.int .i64 i, Value.int .i64 j]))) 2 (some (Blk.mk 30 true [Value.iface 9 (Value.iface (List.length (mkR R C fun x x_1 => 32)) (Value.iface 0 (Value.agg (List.toArray (List.map Value.string (mkR R C fun x x_1 => 32)))))), Value.iface 9 (Value.iface (List.length (mkR R C fun x x_1 => 48)) (Value.iface 0 (Value.agg (List.toArray (List.map Value.string (mkR R C fun x x_1 => 48)))))), Value.int .i64 0, Value.int .i64 0]))) ?_
  refine WpOps.nil (thenK_at (Wp.ret (blockK_ret (thenK_ret ?_))))
  refine endK_retn [Value.agg #[Value.iface 9 (Value.iface (List.length (mkR R C fun x x_1 => 32)) (Value.iface 0 (Value.agg (List.toArray (List.map Value.string (mkR R C fun x x_1 => 32)))))), Value.iface 9 (Value.iface (List.length (mkR R C fun x x_1 => 48)) (Value.iface 0 (Value.agg (List.toArray (List.map Value.string (mkR R C fun x x_1 => 48)))))), Value.int IntKind.i64 0, Value.int IntKind.i64 0]] (Value.agg #[Value.iface 9 (Value.iface (List.length (mkR R C fun x x_1 => 32)) (Value.iface 0 (Value.agg (List.toArray (List.map Value.string (mkR R C fun x x_1 => 32)))))), Value.iface 9 (Value.iface (List.length (mkR R C fun x x_1 => 48)) (Value.iface 0 (Value.agg (List.toArray (List.map Value.string (mkR R C fun x x_1 => 48)))))), Value.int IntKind.i64 0, Value.int IntKind.i64 0]) (by kernel_rfl) (by kernel_rfl) ?_
  rfl
theorem up_cells0 {R C : Nat} {f : Nat → Nat → UInt8} : cellsAt (((mkR R C f).drop 1).map Value.string) 0 ((0 + (R - 1)) * 1) = some (((mkR R C f).drop 1).map Value.string) := by
  have hl : (((mkR R C f).drop 1).map Value.string).length = R - 1 := by rw [List.length_map, List.length_drop, mkR_len]
  unfold cellsAt
  rw [if_pos (by omega), List.drop_zero, List.take_of_length_le (by omega)]
theorem up_eqc {R C : Nat} (h : 1 ≤ R) (f : Nat → Nat → UInt8) (b : UInt8) : ((mkR R C f).drop 1).map Value.string ++ [.string (fillS b C)] = (mkR R C (upF R f b)).map Value.string := by
  rw [← up_eq b h, List.map_append]
  rfl
set_option maxHeartbeats 4000000 in
theorem rapply5a (x y S C : Nat) (f g : Nat → Nat → UInt8) (i j row col n : Int) (t : ByteArray) (hR : S + 2 ≤ 40) (hC : C ≤ 80) : Fun E 42 [dv x y (mkR (S + 2) C f) (mkR (S + 2) C g) i j, uv 5 row col n t] (dv 0 0 (mkR (S + 2) C (upF (S + 2) f 32)) (mkR (S + 2) C (upF (S + 2) g 48)) i j) := by
  refine Fun.of f42 rfl (of_decide_eq_true (by kernel_rfl)) (dv_ice _ _ _ _ _ _) ?_
  have h0 : 1 ≤ S + 2 := by omega
  have c1 := own68m x y (S + 2) C f g i j h0 hR
  have l1 : 0 ≤ (0 : Int) ∧ (0 : Int) < (mkR (S + 2) C f).length := by rw [mkR_len]; omega
  have v1 := strs_0 (mkR (S + 2) C f) (by rw [mkR_len]; omega)
  have fl1 := strs_flat (mkR (S + 2) C f)
  have fl2 := strs_flat (mkR (S + 2) C g)
  have e0 : (rowAt (mkR (S + 2) C f) 0).size = C := mkR_size (by omega)
  have c2 : Fun E 46 [.int .i64 1, .int .i64 (rowAt (mkR (S + 2) C f) 0).size] (.agg #[FS 9 1 0 #[.string (fillS 32 C)], FS 9 1 0 #[.string (fillS 48 C)], .int .i64 0, .int .i64 0]) := by
    have h := blank46 1 C (Nat.le_refl _) (by omega) hC
    rw [mkR_succ, mkR_succ] at h
    rw [e0]
    exact h
  have a0 : 0 ≤ (1 : Int) ∧ (1 : Int) ≤ ((S + 2 : Nat) : Int) := by omega
  have a1 : ¬ (0 + ((S + 2) - 1) ≤ 0) := by omega
  have a2 : 1 ≤ 16 ∧ (0 + ((S + 2) - 1)) * 16 ≤ 140737488355328 ∧ 1 = 1 ∧ 0 + ((S + 2) - 1) ≤ 9223372036854775807 := by omega
  have a1' : ¬ (0 + ((S + 2) - 1) + 1 ≤ 0 + ((S + 2) - 1)) := by omega
  have a2' : 1 ≤ 16 ∧ (0 + ((S + 2) - 1) + 1) * 16 ≤ 140737488355328 ∧ 1 = 1 ∧ 0 + ((S + 2) - 1) + 1 ≤ 9223372036854775807 := by omega
  have a3 : cellsAt ((mkR (S + 2) C f).map Value.string) 1 (((S + 2) - 1) * 1) = some (((mkR (S + 2) C f).drop 1).map Value.string) := up_cells h0
  have a4 : cellsAt ((mkR (S + 2) C g).map Value.string) 1 (((S + 2) - 1) * 1) = some (((mkR (S + 2) C g).drop 1).map Value.string) := up_cells h0
  have a5 : cellsAt (((mkR (S + 2) C f).drop 1).map Value.string) 0 ((0 + ((S + 2) - 1)) * 1) = some (((mkR (S + 2) C f).drop 1).map Value.string) := up_cells0
  have a6 : cellsAt (((mkR (S + 2) C g).drop 1).map Value.string) 0 ((0 + ((S + 2) - 1)) * 1) = some (((mkR (S + 2) C g).drop 1).map Value.string) := up_cells0
  unfold dv strs sB at c1
  unfold dv uv strs
  refine Wp.seq (Wp.text ?_)
  refine md 2 (.pointer (some ⟨0, 0, none⟩)) (Blk.mk 30 true [Value.iface 9 (Value.iface (List.length (mkR (S + 2) C f)) (Value.iface x (Value.agg (List.toArray (List.map Value.string (mkR (S + 2) C f)))))), Value.iface 9 (Value.iface (List.length (mkR (S + 2) C g)) (Value.iface y (Value.agg (List.toArray (List.map Value.string (mkR (S + 2) C g)))))), Value.int .i64 i, Value.int .i64 j]) ?_
  refine md 3 (.pointer (some ⟨1, 0, none⟩)) (Blk.mk 34 true [Value.int .i64 5, Value.int .i64 row, Value.int .i64 col, Value.int .i64 n, Value.string t]) ?_
  refine md 4 (.pointer (some ⟨2, 0, none⟩)) (Blk.mk 30 true [Value.slice none 0 0, Value.slice none 0 0, Value.int .i64 0, Value.int .i64 0]) ?_
  refine WpOps.nil (thenK_at (Wp.seq (Wp.text ?_)))
  refine kp 14 (.agg #[Value.iface 9 (Value.iface (List.length (mkR (S + 2) C f)) (Value.iface x (Value.agg (List.toArray (List.map Value.string (mkR (S + 2) C f)))))), Value.iface 9 (Value.iface (List.length (mkR (S + 2) C g)) (Value.iface y (Value.agg (List.toArray (List.map Value.string (mkR (S + 2) C g)))))), Value.int .i64 i, Value.int .i64 j]) ?_
  refine cl 15 68 [Value.agg #[Value.iface 9 (Value.iface (List.length (mkR (S + 2) C f)) (Value.iface x (Value.agg (List.toArray (List.map Value.string (mkR (S + 2) C f)))))), Value.iface 9 (Value.iface (List.length (mkR (S + 2) C g)) (Value.iface y (Value.agg (List.toArray (List.map Value.string (mkR (S + 2) C g)))))), Value.int .i64 i, Value.int .i64 j]] ?_
  refine WpCall.lent [] (c1) (by decide) trivial (by kernel_rfl) (Value.agg (List.toArray (List.map (unC [3, 4]) (Array.toList #[Value.slice (some (Addr.mk 0 0 none)) (S + 2) (S + 2), Value.slice (some (Addr.mk 1 0 none)) (S + 2) (S + 2), Value.int IntKind.i64 i, Value.int IntKind.i64 j])))) ([Blk.mk 9 true (List.map Value.string (mkR (S + 2) C f)), Blk.mk 9 true (List.map Value.string (mkR (S + 2) C g))]) (.cons (unB_flat (by assumption)) (.cons (unB_flat (by assumption)) .nil)) (by kernel_rfl) (Heap.alloc (Heap.alloc (Heap.alloc (Heap.alloc (Heap.alloc Heap.none (Blk.mk 30 true [Value.iface 9 (Value.iface (List.length (mkR (S + 2) C f)) (Value.iface x (Value.agg (List.toArray (List.map Value.string (mkR (S + 2) C f)))))), Value.iface 9 (Value.iface (List.length (mkR (S + 2) C g)) (Value.iface y (Value.agg (List.toArray (List.map Value.string (mkR (S + 2) C g)))))), Value.int IntKind.i64 i, Value.int IntKind.i64 j])) (Blk.mk 34 true [Value.int IntKind.i64 5, Value.int IntKind.i64 row, Value.int IntKind.i64 col, Value.int IntKind.i64 n, Value.string t])) (Blk.mk 30 true [Value.slice none 0 0, Value.slice none 0 0, Value.int IntKind.i64 0, Value.int IntKind.i64 0])) (Blk.mk 9 true (List.map Value.string (mkR (S + 2) C f)))) (Blk.mk 9 true (List.map Value.string (mkR (S + 2) C g)))) (by kernel_rfl) ?_
  refine md 5 (.pointer (some ⟨5, 0, none⟩)) (Blk.mk 30 true [Value.slice none 0 0, Value.slice none 0 0, Value.int .i64 0, Value.int .i64 0]) ?_
  refine ld (.tuple #[]) (5) (Blk.mk 30 true [Value.slice (some (Addr.mk (List.getD [3, 4] 0 0) 0 none)) (S + 2) (S + 2), Value.slice (some (Addr.mk (List.getD [3, 4] 1 0) 0 none)) (S + 2) (S + 2), Value.int .i64 i, Value.int .i64 j]) ?_
  refine WpOps.nil (thenK_at (Wp.seq ?_))
  refine Wp.region (by kernel_rfl) ?_
  refine kp 16 (.pointer (some ⟨0, 0, none⟩)) ?_
  refine kp 17 (.iface 9 (Value.iface (List.length (mkR (S + 2) C f)) (Value.iface x (Value.agg (List.toArray (List.map Value.string (mkR (S + 2) C f))))))) ?_
  refine kp 18 (.int IntKind.i64 (↑(List.length (mkR (S + 2) C f)) : Int)) ?_
  refine kp 19 (.pointer (some ⟨0, 0, none⟩)) ?_
  refine kp 20 (.iface 9 (Value.iface (List.length (mkR (S + 2) C f)) (Value.iface x (Value.agg (List.toArray (List.map Value.string (mkR (S + 2) C f))))))) ?_
  refine kp 21 (.iface 9 (Value.iface 0 (Value.agg (List.toArray (List.map Value.string (mkR (S + 2) C f)))))) ?_ (hop := fun _ => o_indexI (e := 9) (size := 1) (a := 0) l1)
  refine kp 22 (.string (rowAt (mkR (S + 2) C f) 0)) ?_ (hop := fun _ => o_loadI1 (0) v1)
  refine kp 23 (.int IntKind.i64 (↑(ByteArray.size (rowAt (mkR (S + 2) C f) 0)) : Int)) ?_
  refine kp 6 (.int IntKind.i64 (↑(List.length (mkR (S + 2) C f)) : Int)) ?_
  refine kp 7 (.int IntKind.i64 (↑(ByteArray.size (rowAt (mkR (S + 2) C f) 0)) : Int)) ?_
  refine WpOps.nil (thenK_at (Wp.seq (Wp.seq (Wp.text ?_))))
  refine kp 24 (.pointer (some ⟨1, 0, none⟩)) ?_
  refine kp 25 (.int IntKind.i64 5) ?_
  refine WpOps.nil (thenK_at (Wp.block (Wp.seq (Wp.text ?_))))
  refine kp 27 (.bool false) ?_
  refine kp 26 (.bool false) ?_
  refine WpOps.nil (thenK_at (off' (Wp.seq (Wp.text ?_))))
  refine kp 35 (.bool false) ?_
  refine kp 34 (.bool false) ?_
  refine WpOps.nil (thenK_at (off' (Wp.seq (Wp.text ?_))))
  refine kp 95 (.bool false) ?_
  refine kp 94 (.bool false) ?_
  refine WpOps.nil (thenK_at (off' (Wp.seq (Wp.text ?_))))
  refine kp 108 (.bool false) ?_
  refine kp 107 (.bool false) ?_
  refine WpOps.nil (thenK_at (off' (Wp.seq (Wp.text ?_))))
  refine kp 113 (.bool true) ?_
  refine kp 112 (.bool true) ?_
  refine WpOps.nil (thenK_at (on' (Wp.seq (Wp.text ?_))))
  refine kp 114 (.int IntKind.i64 (↑(ByteArray.size (rowAt (mkR (S + 2) C f) 0)) : Int)) ?_
  refine fr 115 46 [Value.int .i64 1, Value.int .i64 (↑(ByteArray.size (rowAt (mkR (S + 2) C f) 0)) : Int)] ?_
  refine WpFun.of (c2) ?_
  refine cg 11 (.pointer (some ⟨6, 0, none⟩)) (Heap.alloc (Heap.set (Heap.alloc (Heap.alloc (Heap.alloc (Heap.alloc (Heap.alloc (Heap.alloc Heap.none (Blk.mk 30 true [Value.iface 9 (Value.iface (List.length (mkR (S + 2) C f)) (Value.iface x (Value.agg (List.toArray (List.map Value.string (mkR (S + 2) C f)))))), Value.iface 9 (Value.iface (List.length (mkR (S + 2) C g)) (Value.iface y (Value.agg (List.toArray (List.map Value.string (mkR (S + 2) C g)))))), Value.int .i64 i, Value.int .i64 j])) (Blk.mk 34 true [Value.int .i64 5, Value.int .i64 row, Value.int .i64 col, Value.int .i64 n, Value.string t])) (Blk.mk 30 true [Value.slice none 0 0, Value.slice none 0 0, Value.int .i64 0, Value.int .i64 0])) (Blk.mk 9 true (List.map Value.string (mkR (S + 2) C f)))) (Blk.mk 9 true (List.map Value.string (mkR (S + 2) C g)))) (Blk.mk 30 true [Value.slice none 0 0, Value.slice none 0 0, Value.int .i64 0, Value.int .i64 0])) 5 (some (Blk.mk 30 true [Value.slice (some ⟨3, 0, none⟩) (S + 2) (S + 2), Value.slice (some ⟨4, 0, none⟩) (S + 2) (S + 2), Value.int .i64 i, Value.int .i64 j]))) (Blk.mk 30 true [Value.slice none 0 0, Value.slice none 0 0, Value.int .i64 0, Value.int .i64 0])) ?_
  refine ld (.tuple #[]) (6) (Blk.mk 30 true [Value.iface 9 (Value.iface 1 (Value.iface 0 (Value.agg #[Value.string (fillS 32 C)]))), Value.iface 9 (Value.iface 1 (Value.iface 0 (Value.agg #[Value.string (fillS 48 C)]))), Value.int .i64 0, Value.int .i64 0]) ?_
  refine WpOps.nil (thenK_at (Wp.seq ?_))
  refine Wp.regionD [(0, 9), (4, 9)] [[0, 1, 2, 3, 4, 5, 6, 7, 8, 9, 10, 11, 12], [0, 1, 2, 3, 5, 6, 7, 8, 9, 4, 10, 11, 12], [1, 2, 3, 5, 6, 7, 8, 9, 0, 4, 10, 11, 12]] (by kernel_rfl) (by kernel_rfl) [(4, .pointer (some ⟨0, 0, none⟩)), (5, .pointer (some ⟨1, 0, none⟩)), (11, .pointer (some ⟨4, 0, none⟩))] [⟨30, true, [.slice none 0 0, .slice none 0 0, .int .i64 0, .int .i64 0]⟩, ⟨30, true, [.slice (some ⟨2, 0, none⟩) (0 + ((S + 2) - 1) + 1) (0 + ((S + 2) - 1) + 1), .slice (some ⟨3, 0, none⟩) (S + 2) (S + 2), .int .i64 i, .int .i64 j]⟩, sB (mkR (S + 2) C (upF (S + 2) f 32)), sB (mkR (S + 2) C g), ⟨30, true, [FS 9 1 0 #[.string (fillS 32 C)], FS 9 1 0 #[.string (fillS 48 C)], .int .i64 0, .int .i64 0]⟩] (allC ?_ (allC ?_ (all1 ?_))) ?_
  rotate_right
  · have fl3 := strs_flat (mkR (S + 2) C (upF (S + 2) f 32))
    have fl4 := strs_flat (mkR (S + 2) C (upF (S + 2) g 48))
    unfold sB
    refine thenK_at ?_
    refine Wp.regionD [(0, 9), (4, 9)] [[0, 1, 2, 3, 4, 5, 6, 7, 8, 9, 10, 11, 12], [0, 1, 2, 3, 5, 6, 7, 8, 9, 4, 10, 11, 12], [1, 2, 3, 5, 6, 7, 8, 9, 0, 4, 10, 11, 12]] (by kernel_rfl) (by kernel_rfl) [(4, .pointer (some ⟨0, 0, none⟩)), (5, .pointer (some ⟨1, 0, none⟩)), (11, .pointer (some ⟨4, 0, none⟩))] [⟨30, true, [.slice none 0 0, .slice none 0 0, .int .i64 0, .int .i64 0]⟩, ⟨30, true, [.slice (some ⟨2, 0, none⟩) (0 + ((S + 2) - 1) + 1) (0 + ((S + 2) - 1) + 1), .slice (some ⟨3, 0, none⟩) (0 + ((S + 2) - 1) + 1) (0 + ((S + 2) - 1) + 1), .int .i64 i, .int .i64 j]⟩, sB (mkR (S + 2) C (upF (S + 2) f 32)), sB (mkR (S + 2) C (upF (S + 2) g 48)), ⟨30, true, [FS 9 1 0 #[.string (fillS 32 C)], FS 9 1 0 #[.string (fillS 48 C)], .int .i64 0, .int .i64 0]⟩] (allC ?_ (allC ?_ (all1 ?_))) ?_
    rotate_right
    · unfold sB
      refine blockK_norm (thenK_at (Wp.seq (Wp.text ?_)))
      refine kp 174 (.agg #[Value.slice (some ⟨2, 0, none⟩) (0 + (S + 2 - 1) + 1) (0 + (S + 2 - 1) + 1), Value.slice (some ⟨3, 0, none⟩) (0 + (S + 2 - 1) + 1) (0 + (S + 2 - 1) + 1), Value.int .i64 i, Value.int .i64 j]) ?_
      refine ld (.tuple #[]) (0) (Blk.mk 30 true [Value.slice (some ⟨2, 0, none⟩) (0 + (S + 2 - 1) + 1) (0 + (S + 2 - 1) + 1), Value.slice (some ⟨3, 0, none⟩) (0 + (S + 2 - 1) + 1) (0 + (S + 2 - 1) + 1), Value.int .i64 i, Value.int .i64 j]) ?_
      refine WpOps.nil (thenK_at (Wp.ret ?_))
      refine endK_retn [Value.agg #[Value.slice (some (Addr.mk 2 0 none)) (0 + (S + 2 - 1) + 1) (0 + (S + 2 - 1) + 1), Value.slice (some (Addr.mk 3 0 none)) (0 + (S + 2 - 1) + 1) (0 + (S + 2 - 1) + 1), Value.int IntKind.i64 i, Value.int IntKind.i64 j]] (Value.agg #[Value.slice (some (Addr.mk 2 0 none)) (0 + (S + 2 - 1) + 1) (0 + (S + 2 - 1) + 1), Value.slice (some (Addr.mk 3 0 none)) (0 + (S + 2 - 1) + 1) (0 + (S + 2 - 1) + 1), Value.int IntKind.i64 i, Value.int IntKind.i64 j]) (by kernel_rfl) (by kernel_rfl) ?_
      exact ice_dv (mkR (S + 2) C (upF (S + 2) f 32)) (mkR (S + 2) C (upF (S + 2) g 48)) i j (by rw [mkR_len]; omega) (by rw [mkR_len]; omega) (by kernel_rfl) (by kernel_rfl)
    · refine md 128 (.slice (some ⟨5, 0, none⟩) 0 0) (Blk.mk 9 true []) ?_
      refine kp 129 (.pointer (some ⟨1, 1, none⟩)) ?_
      refine kp 130 (.slice (some ⟨3, 0, none⟩) (S + 2) (S + 2)) ?_
      refine kp 131 (.slice (some ⟨3, 1, none⟩) (S + 2 - 1) (S + 2 - 1)) ?_ (hop := fun _ => o_cutS_lo (a := 1) (bl := 3) (off := 0) (e := 9) (size := 1) a0)
      refine ra 132 (.slice (some ⟨6, 0, none⟩) (0 + (S + 2 - 1)) (0 + (S + 2 - 1))) (5) (Blk.mk 9 true ([] ++ List.map Value.string (List.drop 1 (mkR (S + 2) C g)))) ?_ (hop := fun _ => o_append (e := 9) 5 (0) (0) _ (0) a1 a2 (by kernel_rfl) (by kernel_rfl) (by kernel_rfl) (by kernel_rfl) (src_of (b := 3) (off := 1) (by kernel_rfl) (by kernel_rfl) (by kernel_rfl) a4))
      refine kp 133 (.pointer (some ⟨4, 1, none⟩)) ?_
      refine kp 134 (.iface 9 (Value.iface 1 (Value.iface 0 (Value.agg #[Value.string (fillS 48 C)])))) ?_
      refine kp 135 (.iface 9 (Value.iface 0 (Value.agg #[Value.string (fillS 48 C)]))) ?_
      refine kp 136 (.string (fillS 48 C)) ?_
      refine md 137 (.slice (some ⟨7, 0, none⟩) 1 1) (Blk.mk 9 true [Value.string (fillS 48 C)]) ?_
      refine ra 138 (.slice (some ⟨8, 0, none⟩) (0 + (S + 2 - 1) + 1) (0 + (S + 2 - 1) + 1)) (6) (Blk.mk 9 true (List.map Value.string (List.drop 1 (mkR (S + 2) C g)) ++ [Value.string (fillS 48 C)])) ?_ (hop := fun _ => o_append (e := 9) 6 (0) (0 + (S + 2 - 1)) _ (0 + (S + 2 - 1)) a1' a2' a6)
      refine kp 139 (.pointer (some ⟨1, 1, none⟩)) ?_
      refine ld (.tuple #[]) (1) (Blk.mk 30 true [Value.slice (some ⟨2, 0, none⟩) (0 + (S + 2 - 1) + 1) (0 + (S + 2 - 1) + 1), Value.slice (some ⟨8, 0, none⟩) (0 + (S + 2 - 1) + 1) (0 + (S + 2 - 1) + 1), Value.int .i64 i, Value.int .i64 j]) ?_
      refine WpOps.nil ?_
      refine ⟨by kernel_rfl, ?_⟩
      exact View.of [0, 1, 2, 8, 4] [⟨30, true, [.slice none 0 0, .slice none 0 0, .int .i64 0, .int .i64 0]⟩, ⟨30, true, [.slice (some ⟨2, 0, none⟩) (0 + ((S + 2) - 1) + 1) (0 + ((S + 2) - 1) + 1), .slice (some ⟨3, 0, none⟩) (0 + ((S + 2) - 1) + 1) (0 + ((S + 2) - 1) + 1), .int .i64 i, .int .i64 j]⟩, sB (mkR (S + 2) C (upF (S + 2) f 32)), sB (mkR (S + 2) C (upF (S + 2) g 48)), ⟨30, true, [FS 9 1 0 #[.string (fillS 32 C)], FS 9 1 0 #[.string (fillS 48 C)], .int .i64 0, .int .i64 0]⟩] _ (by decide) rfl ⟨⟨_, by kernel_rfl, CellsOk.eq rfl rfl⟩, ⟨[.slice (some ⟨2, 0, none⟩) (0 + ((S + 2) - 1) + 1) (0 + ((S + 2) - 1) + 1), .slice (some ⟨8, 0, none⟩) (0 + ((S + 2) - 1) + 1) (0 + ((S + 2) - 1) + 1), .int .i64 i, .int .i64 j], by kernel_rfl, ⟨by kernel_rfl, by kernel_rfl⟩⟩, ⟨_, by kernel_rfl, CellsOk.eq rfl fl3⟩, ⟨_, by kernel_rfl, CellsOk.eq (up_eqc h0 g 48) (strs_flat _)⟩, ⟨_, by kernel_rfl, CellsOk.eq rfl rfl⟩, trivial⟩ ⟨⟨by kernel_rfl, rfl⟩, ⟨by kernel_rfl, rfl⟩, ⟨by kernel_rfl, rfl⟩, trivial⟩
    · refine md 128 (.slice (some ⟨5, 0, none⟩) 0 0) (Blk.mk 9 true []) ?_
      refine kp 129 (.pointer (some ⟨1, 1, none⟩)) ?_
      refine kp 130 (.slice (some ⟨3, 0, none⟩) (S + 2) (S + 2)) ?_
      refine kp 131 (.slice (some ⟨3, 1, none⟩) (S + 2 - 1) (S + 2 - 1)) ?_ (hop := fun _ => o_cutS_lo (a := 1) (bl := 3) (off := 0) (e := 9) (size := 1) a0)
      refine kp 133 (.pointer (some ⟨4, 1, none⟩)) ?_
      refine kp 134 (.iface 9 (Value.iface 1 (Value.iface 0 (Value.agg #[Value.string (fillS 48 C)])))) ?_
      refine kp 135 (.iface 9 (Value.iface 0 (Value.agg #[Value.string (fillS 48 C)]))) ?_
      refine kp 136 (.string (fillS 48 C)) ?_
      refine md 137 (.slice (some ⟨6, 0, none⟩) 1 1) (Blk.mk 9 true [Value.string (fillS 48 C)]) ?_
      refine ra 132 (.slice (some ⟨7, 0, none⟩) (0 + (S + 2 - 1)) (0 + (S + 2 - 1))) (5) (Blk.mk 9 true ([] ++ List.map Value.string (List.drop 1 (mkR (S + 2) C g)))) ?_ (hop := fun _ => o_append (e := 9) 5 (0) (0) _ (0) a1 a2 (by kernel_rfl) (by kernel_rfl) (by kernel_rfl) (by kernel_rfl) (src_of (b := 3) (off := 1) (by kernel_rfl) (by kernel_rfl) (by kernel_rfl) a4))
      refine ra 138 (.slice (some ⟨8, 0, none⟩) (0 + (S + 2 - 1) + 1) (0 + (S + 2 - 1) + 1)) (7) (Blk.mk 9 true (List.map Value.string (List.drop 1 (mkR (S + 2) C g)) ++ [Value.string (fillS 48 C)])) ?_ (hop := fun _ => o_append (e := 9) 7 (0) (0 + (S + 2 - 1)) _ (0 + (S + 2 - 1)) a1' a2' a6)
      refine kp 139 (.pointer (some ⟨1, 1, none⟩)) ?_
      refine ld (.tuple #[]) (1) (Blk.mk 30 true [Value.slice (some ⟨2, 0, none⟩) (0 + (S + 2 - 1) + 1) (0 + (S + 2 - 1) + 1), Value.slice (some ⟨8, 0, none⟩) (0 + (S + 2 - 1) + 1) (0 + (S + 2 - 1) + 1), Value.int .i64 i, Value.int .i64 j]) ?_
      refine WpOps.nil ?_
      refine ⟨by kernel_rfl, ?_⟩
      exact View.of [0, 1, 2, 8, 4] [⟨30, true, [.slice none 0 0, .slice none 0 0, .int .i64 0, .int .i64 0]⟩, ⟨30, true, [.slice (some ⟨2, 0, none⟩) (0 + ((S + 2) - 1) + 1) (0 + ((S + 2) - 1) + 1), .slice (some ⟨3, 0, none⟩) (0 + ((S + 2) - 1) + 1) (0 + ((S + 2) - 1) + 1), .int .i64 i, .int .i64 j]⟩, sB (mkR (S + 2) C (upF (S + 2) f 32)), sB (mkR (S + 2) C (upF (S + 2) g 48)), ⟨30, true, [FS 9 1 0 #[.string (fillS 32 C)], FS 9 1 0 #[.string (fillS 48 C)], .int .i64 0, .int .i64 0]⟩] _ (by decide) rfl ⟨⟨_, by kernel_rfl, CellsOk.eq rfl rfl⟩, ⟨[.slice (some ⟨2, 0, none⟩) (0 + ((S + 2) - 1) + 1) (0 + ((S + 2) - 1) + 1), .slice (some ⟨8, 0, none⟩) (0 + ((S + 2) - 1) + 1) (0 + ((S + 2) - 1) + 1), .int .i64 i, .int .i64 j], by kernel_rfl, ⟨by kernel_rfl, by kernel_rfl⟩⟩, ⟨_, by kernel_rfl, CellsOk.eq rfl fl3⟩, ⟨_, by kernel_rfl, CellsOk.eq (up_eqc h0 g 48) (strs_flat _)⟩, ⟨_, by kernel_rfl, CellsOk.eq rfl rfl⟩, trivial⟩ ⟨⟨by kernel_rfl, rfl⟩, ⟨by kernel_rfl, rfl⟩, ⟨by kernel_rfl, rfl⟩, trivial⟩
    · refine kp 129 (.pointer (some ⟨1, 1, none⟩)) ?_
      refine kp 130 (.slice (some ⟨3, 0, none⟩) (S + 2) (S + 2)) ?_
      refine kp 131 (.slice (some ⟨3, 1, none⟩) (S + 2 - 1) (S + 2 - 1)) ?_ (hop := fun _ => o_cutS_lo (a := 1) (bl := 3) (off := 0) (e := 9) (size := 1) a0)
      refine kp 133 (.pointer (some ⟨4, 1, none⟩)) ?_
      refine kp 134 (.iface 9 (Value.iface 1 (Value.iface 0 (Value.agg #[Value.string (fillS 48 C)])))) ?_
      refine kp 135 (.iface 9 (Value.iface 0 (Value.agg #[Value.string (fillS 48 C)]))) ?_
      refine kp 136 (.string (fillS 48 C)) ?_
      refine md 137 (.slice (some ⟨5, 0, none⟩) 1 1) (Blk.mk 9 true [Value.string (fillS 48 C)]) ?_
      refine md 128 (.slice (some ⟨6, 0, none⟩) 0 0) (Blk.mk 9 true []) ?_
      refine ra 132 (.slice (some ⟨7, 0, none⟩) (0 + (S + 2 - 1)) (0 + (S + 2 - 1))) (6) (Blk.mk 9 true ([] ++ List.map Value.string (List.drop 1 (mkR (S + 2) C g)))) ?_ (hop := fun _ => o_append (e := 9) 6 (0) (0) _ (0) a1 a2 (by kernel_rfl) (by kernel_rfl) (by kernel_rfl) (by kernel_rfl) (src_of (b := 3) (off := 1) (by kernel_rfl) (by kernel_rfl) (by kernel_rfl) a4))
      refine ra 138 (.slice (some ⟨8, 0, none⟩) (0 + (S + 2 - 1) + 1) (0 + (S + 2 - 1) + 1)) (7) (Blk.mk 9 true (List.map Value.string (List.drop 1 (mkR (S + 2) C g)) ++ [Value.string (fillS 48 C)])) ?_ (hop := fun _ => o_append (e := 9) 7 (0) (0 + (S + 2 - 1)) _ (0 + (S + 2 - 1)) a1' a2' a6)
      refine kp 139 (.pointer (some ⟨1, 1, none⟩)) ?_
      refine ld (.tuple #[]) (1) (Blk.mk 30 true [Value.slice (some ⟨2, 0, none⟩) (0 + (S + 2 - 1) + 1) (0 + (S + 2 - 1) + 1), Value.slice (some ⟨8, 0, none⟩) (0 + (S + 2 - 1) + 1) (0 + (S + 2 - 1) + 1), Value.int .i64 i, Value.int .i64 j]) ?_
      refine WpOps.nil ?_
      refine ⟨by kernel_rfl, ?_⟩
      exact View.of [0, 1, 2, 8, 4] [⟨30, true, [.slice none 0 0, .slice none 0 0, .int .i64 0, .int .i64 0]⟩, ⟨30, true, [.slice (some ⟨2, 0, none⟩) (0 + ((S + 2) - 1) + 1) (0 + ((S + 2) - 1) + 1), .slice (some ⟨3, 0, none⟩) (0 + ((S + 2) - 1) + 1) (0 + ((S + 2) - 1) + 1), .int .i64 i, .int .i64 j]⟩, sB (mkR (S + 2) C (upF (S + 2) f 32)), sB (mkR (S + 2) C (upF (S + 2) g 48)), ⟨30, true, [FS 9 1 0 #[.string (fillS 32 C)], FS 9 1 0 #[.string (fillS 48 C)], .int .i64 0, .int .i64 0]⟩] _ (by decide) rfl ⟨⟨_, by kernel_rfl, CellsOk.eq rfl rfl⟩, ⟨[.slice (some ⟨2, 0, none⟩) (0 + ((S + 2) - 1) + 1) (0 + ((S + 2) - 1) + 1), .slice (some ⟨8, 0, none⟩) (0 + ((S + 2) - 1) + 1) (0 + ((S + 2) - 1) + 1), .int .i64 i, .int .i64 j], by kernel_rfl, ⟨by kernel_rfl, by kernel_rfl⟩⟩, ⟨_, by kernel_rfl, CellsOk.eq rfl fl3⟩, ⟨_, by kernel_rfl, CellsOk.eq (up_eqc h0 g 48) (strs_flat _)⟩, ⟨_, by kernel_rfl, CellsOk.eq rfl rfl⟩, trivial⟩ ⟨⟨by kernel_rfl, rfl⟩, ⟨by kernel_rfl, rfl⟩, ⟨by kernel_rfl, rfl⟩, trivial⟩
  · refine md 116 (.slice (some ⟨7, 0, none⟩) 0 0) (Blk.mk 9 true []) ?_
    refine kp 117 (.pointer (some ⟨5, 0, none⟩)) ?_
    refine kp 118 (.slice (some ⟨3, 0, none⟩) (S + 2) (S + 2)) ?_
    refine kp 119 (.slice (some ⟨3, 1, none⟩) (S + 2 - 1) (S + 2 - 1)) ?_ (hop := fun _ => o_cutS_lo (a := 1) (bl := 3) (off := 0) (e := 9) (size := 1) a0)
    refine ra 120 (.slice (some ⟨8, 0, none⟩) (0 + (S + 2 - 1)) (0 + (S + 2 - 1))) (7) (Blk.mk 9 true ([] ++ List.map Value.string (List.drop 1 (mkR (S + 2) C f)))) ?_ (hop := fun _ => o_append (e := 9) 7 (0) (0) _ (0) a1 a2 (by kernel_rfl) (by kernel_rfl) (by kernel_rfl) (by kernel_rfl) (src_of (b := 3) (off := 1) (by kernel_rfl) (by kernel_rfl) (by kernel_rfl) a3))
    refine kp 121 (.pointer (some ⟨6, 0, none⟩)) ?_
    refine kp 122 (.iface 9 (Value.iface 1 (Value.iface 0 (Value.agg #[Value.string (fillS 32 C)])))) ?_
    refine kp 123 (.iface 9 (Value.iface 0 (Value.agg #[Value.string (fillS 32 C)]))) ?_
    refine kp 124 (.string (fillS 32 C)) ?_
    refine md 125 (.slice (some ⟨9, 0, none⟩) 1 1) (Blk.mk 9 true [Value.string (fillS 32 C)]) ?_
    refine ra 126 (.slice (some ⟨10, 0, none⟩) (0 + (S + 2 - 1) + 1) (0 + (S + 2 - 1) + 1)) (8) (Blk.mk 9 true (List.map Value.string (List.drop 1 (mkR (S + 2) C f)) ++ [Value.string (fillS 32 C)])) ?_ (hop := fun _ => o_append (e := 9) 8 (0) (0 + (S + 2 - 1)) _ (0 + (S + 2 - 1)) a1' a2' a5)
    refine kp 127 (.pointer (some ⟨5, 0, none⟩)) ?_
    refine ld (.tuple #[]) (5) (Blk.mk 30 true [Value.slice (some ⟨10, 0, none⟩) (0 + (S + 2 - 1) + 1) (0 + (S + 2 - 1) + 1), Value.slice (some ⟨4, 0, none⟩) (S + 2) (S + 2), Value.int .i64 i, Value.int .i64 j]) ?_
    refine WpOps.nil ?_
    refine ⟨by kernel_rfl, ?_⟩
    exact View.of [2, 5, 10, 4, 6] [⟨30, true, [.slice none 0 0, .slice none 0 0, .int .i64 0, .int .i64 0]⟩, ⟨30, true, [.slice (some ⟨2, 0, none⟩) (0 + ((S + 2) - 1) + 1) (0 + ((S + 2) - 1) + 1), .slice (some ⟨3, 0, none⟩) (S + 2) (S + 2), .int .i64 i, .int .i64 j]⟩, sB (mkR (S + 2) C (upF (S + 2) f 32)), sB (mkR (S + 2) C g), ⟨30, true, [FS 9 1 0 #[.string (fillS 32 C)], FS 9 1 0 #[.string (fillS 48 C)], .int .i64 0, .int .i64 0]⟩] _ (by decide) rfl ⟨⟨_, by kernel_rfl, CellsOk.eq rfl rfl⟩, ⟨[.slice (some ⟨10, 0, none⟩) (0 + ((S + 2) - 1) + 1) (0 + ((S + 2) - 1) + 1), .slice (some ⟨4, 0, none⟩) (S + 2) (S + 2), .int .i64 i, .int .i64 j], by kernel_rfl, ⟨by kernel_rfl, by kernel_rfl⟩⟩, ⟨_, by kernel_rfl, CellsOk.eq (up_eqc h0 f 32) (strs_flat _)⟩, ⟨_, by kernel_rfl, CellsOk.eq rfl fl2⟩, ⟨_, by kernel_rfl, CellsOk.eq rfl rfl⟩, trivial⟩ ⟨⟨by kernel_rfl, rfl⟩, ⟨by kernel_rfl, rfl⟩, ⟨by kernel_rfl, rfl⟩, trivial⟩
  · refine md 116 (.slice (some ⟨7, 0, none⟩) 0 0) (Blk.mk 9 true []) ?_
    refine kp 117 (.pointer (some ⟨5, 0, none⟩)) ?_
    refine kp 118 (.slice (some ⟨3, 0, none⟩) (S + 2) (S + 2)) ?_
    refine kp 119 (.slice (some ⟨3, 1, none⟩) (S + 2 - 1) (S + 2 - 1)) ?_ (hop := fun _ => o_cutS_lo (a := 1) (bl := 3) (off := 0) (e := 9) (size := 1) a0)
    refine kp 121 (.pointer (some ⟨6, 0, none⟩)) ?_
    refine kp 122 (.iface 9 (Value.iface 1 (Value.iface 0 (Value.agg #[Value.string (fillS 32 C)])))) ?_
    refine kp 123 (.iface 9 (Value.iface 0 (Value.agg #[Value.string (fillS 32 C)]))) ?_
    refine kp 124 (.string (fillS 32 C)) ?_
    refine md 125 (.slice (some ⟨8, 0, none⟩) 1 1) (Blk.mk 9 true [Value.string (fillS 32 C)]) ?_
    refine ra 120 (.slice (some ⟨9, 0, none⟩) (0 + (S + 2 - 1)) (0 + (S + 2 - 1))) (7) (Blk.mk 9 true ([] ++ List.map Value.string (List.drop 1 (mkR (S + 2) C f)))) ?_ (hop := fun _ => o_append (e := 9) 7 (0) (0) _ (0) a1 a2 (by kernel_rfl) (by kernel_rfl) (by kernel_rfl) (by kernel_rfl) (src_of (b := 3) (off := 1) (by kernel_rfl) (by kernel_rfl) (by kernel_rfl) a3))
    refine ra 126 (.slice (some ⟨10, 0, none⟩) (0 + (S + 2 - 1) + 1) (0 + (S + 2 - 1) + 1)) (9) (Blk.mk 9 true (List.map Value.string (List.drop 1 (mkR (S + 2) C f)) ++ [Value.string (fillS 32 C)])) ?_ (hop := fun _ => o_append (e := 9) 9 (0) (0 + (S + 2 - 1)) _ (0 + (S + 2 - 1)) a1' a2' a5)
    refine kp 127 (.pointer (some ⟨5, 0, none⟩)) ?_
    refine ld (.tuple #[]) (5) (Blk.mk 30 true [Value.slice (some ⟨10, 0, none⟩) (0 + (S + 2 - 1) + 1) (0 + (S + 2 - 1) + 1), Value.slice (some ⟨4, 0, none⟩) (S + 2) (S + 2), Value.int .i64 i, Value.int .i64 j]) ?_
    refine WpOps.nil ?_
    refine ⟨by kernel_rfl, ?_⟩
    exact View.of [2, 5, 10, 4, 6] [⟨30, true, [.slice none 0 0, .slice none 0 0, .int .i64 0, .int .i64 0]⟩, ⟨30, true, [.slice (some ⟨2, 0, none⟩) (0 + ((S + 2) - 1) + 1) (0 + ((S + 2) - 1) + 1), .slice (some ⟨3, 0, none⟩) (S + 2) (S + 2), .int .i64 i, .int .i64 j]⟩, sB (mkR (S + 2) C (upF (S + 2) f 32)), sB (mkR (S + 2) C g), ⟨30, true, [FS 9 1 0 #[.string (fillS 32 C)], FS 9 1 0 #[.string (fillS 48 C)], .int .i64 0, .int .i64 0]⟩] _ (by decide) rfl ⟨⟨_, by kernel_rfl, CellsOk.eq rfl rfl⟩, ⟨[.slice (some ⟨10, 0, none⟩) (0 + ((S + 2) - 1) + 1) (0 + ((S + 2) - 1) + 1), .slice (some ⟨4, 0, none⟩) (S + 2) (S + 2), .int .i64 i, .int .i64 j], by kernel_rfl, ⟨by kernel_rfl, by kernel_rfl⟩⟩, ⟨_, by kernel_rfl, CellsOk.eq (up_eqc h0 f 32) (strs_flat _)⟩, ⟨_, by kernel_rfl, CellsOk.eq rfl fl2⟩, ⟨_, by kernel_rfl, CellsOk.eq rfl rfl⟩, trivial⟩ ⟨⟨by kernel_rfl, rfl⟩, ⟨by kernel_rfl, rfl⟩, ⟨by kernel_rfl, rfl⟩, trivial⟩
  · refine kp 117 (.pointer (some ⟨5, 0, none⟩)) ?_
    refine kp 118 (.slice (some ⟨3, 0, none⟩) (S + 2) (S + 2)) ?_
    refine kp 119 (.slice (some ⟨3, 1, none⟩) (S + 2 - 1) (S + 2 - 1)) ?_ (hop := fun _ => o_cutS_lo (a := 1) (bl := 3) (off := 0) (e := 9) (size := 1) a0)
    refine kp 121 (.pointer (some ⟨6, 0, none⟩)) ?_
    refine kp 122 (.iface 9 (Value.iface 1 (Value.iface 0 (Value.agg #[Value.string (fillS 32 C)])))) ?_
    refine kp 123 (.iface 9 (Value.iface 0 (Value.agg #[Value.string (fillS 32 C)]))) ?_
    refine kp 124 (.string (fillS 32 C)) ?_
    refine md 125 (.slice (some ⟨7, 0, none⟩) 1 1) (Blk.mk 9 true [Value.string (fillS 32 C)]) ?_
    refine md 116 (.slice (some ⟨8, 0, none⟩) 0 0) (Blk.mk 9 true []) ?_
    refine ra 120 (.slice (some ⟨9, 0, none⟩) (0 + (S + 2 - 1)) (0 + (S + 2 - 1))) (8) (Blk.mk 9 true ([] ++ List.map Value.string (List.drop 1 (mkR (S + 2) C f)))) ?_ (hop := fun _ => o_append (e := 9) 8 (0) (0) _ (0) a1 a2 (by kernel_rfl) (by kernel_rfl) (by kernel_rfl) (by kernel_rfl) (src_of (b := 3) (off := 1) (by kernel_rfl) (by kernel_rfl) (by kernel_rfl) a3))
    refine ra 126 (.slice (some ⟨10, 0, none⟩) (0 + (S + 2 - 1) + 1) (0 + (S + 2 - 1) + 1)) (9) (Blk.mk 9 true (List.map Value.string (List.drop 1 (mkR (S + 2) C f)) ++ [Value.string (fillS 32 C)])) ?_ (hop := fun _ => o_append (e := 9) 9 (0) (0 + (S + 2 - 1)) _ (0 + (S + 2 - 1)) a1' a2' a5)
    refine kp 127 (.pointer (some ⟨5, 0, none⟩)) ?_
    refine ld (.tuple #[]) (5) (Blk.mk 30 true [Value.slice (some ⟨10, 0, none⟩) (0 + (S + 2 - 1) + 1) (0 + (S + 2 - 1) + 1), Value.slice (some ⟨4, 0, none⟩) (S + 2) (S + 2), Value.int .i64 i, Value.int .i64 j]) ?_
    refine WpOps.nil ?_
    refine ⟨by kernel_rfl, ?_⟩
    exact View.of [2, 5, 10, 4, 6] [⟨30, true, [.slice none 0 0, .slice none 0 0, .int .i64 0, .int .i64 0]⟩, ⟨30, true, [.slice (some ⟨2, 0, none⟩) (0 + ((S + 2) - 1) + 1) (0 + ((S + 2) - 1) + 1), .slice (some ⟨3, 0, none⟩) (S + 2) (S + 2), .int .i64 i, .int .i64 j]⟩, sB (mkR (S + 2) C (upF (S + 2) f 32)), sB (mkR (S + 2) C g), ⟨30, true, [FS 9 1 0 #[.string (fillS 32 C)], FS 9 1 0 #[.string (fillS 48 C)], .int .i64 0, .int .i64 0]⟩] _ (by decide) rfl ⟨⟨_, by kernel_rfl, CellsOk.eq rfl rfl⟩, ⟨[.slice (some ⟨10, 0, none⟩) (0 + ((S + 2) - 1) + 1) (0 + ((S + 2) - 1) + 1), .slice (some ⟨4, 0, none⟩) (S + 2) (S + 2), .int .i64 i, .int .i64 j], by kernel_rfl, ⟨by kernel_rfl, by kernel_rfl⟩⟩, ⟨_, by kernel_rfl, CellsOk.eq (up_eqc h0 f 32) (strs_flat _)⟩, ⟨_, by kernel_rfl, CellsOk.eq rfl fl2⟩, ⟨_, by kernel_rfl, CellsOk.eq rfl rfl⟩, trivial⟩ ⟨⟨by kernel_rfl, rfl⟩, ⟨by kernel_rfl, rfl⟩, ⟨by kernel_rfl, rfl⟩, trivial⟩
set_option maxHeartbeats 4000000 in
theorem rapply5b (x y C : Nat) (f g : Nat → Nat → UInt8) (i j row col n : Int) (t : ByteArray) (hC : C ≤ 80) : Fun E 42 [dv x y (mkR 1 C f) (mkR 1 C g) i j, uv 5 row col n t] (dv 0 0 (mkR 1 C (upF 1 f 32)) (mkR 1 C (upF 1 g 48)) i j) := by
  refine Fun.of f42 rfl (of_decide_eq_true (by kernel_rfl)) (dv_ice _ _ _ _ _ _) ?_
  have c1 := own68m x y 1 C f g i j (Nat.le_refl 1) (by decide)
  have l1 : 0 ≤ (0 : Int) ∧ (0 : Int) < (mkR 1 C f).length := by rw [mkR_len]; omega
  have v1 := strs_0 (mkR 1 C f) (by rw [mkR_len]; omega)
  have fl1 := strs_flat (mkR 1 C f)
  have fl2 := strs_flat (mkR 1 C g)
  have e0 : (rowAt (mkR 1 C f) 0).size = C := mkR_size (by omega)
  have c2 : Fun E 46 [.int .i64 1, .int .i64 (rowAt (mkR 1 C f) 0).size] (.agg #[FS 9 1 0 #[.string (fillS 32 C)], FS 9 1 0 #[.string (fillS 48 C)], .int .i64 0, .int .i64 0]) := by
    have h := blank46 1 C (Nat.le_refl _) (by omega) hC
    rw [mkR_succ, mkR_succ] at h
    rw [e0]
    exact h
  unfold dv strs sB at c1
  unfold dv uv strs
  refine Wp.seq (Wp.text ?_)
  refine md 2 (.pointer (some ⟨0, 0, none⟩)) (Blk.mk 30 true [Value.iface 9 (Value.iface (List.length (mkR 1 C f)) (Value.iface x (Value.agg (List.toArray (List.map Value.string (mkR 1 C f)))))), Value.iface 9 (Value.iface (List.length (mkR 1 C g)) (Value.iface y (Value.agg (List.toArray (List.map Value.string (mkR 1 C g)))))), Value.int .i64 i, Value.int .i64 j]) ?_
  refine md 3 (.pointer (some ⟨1, 0, none⟩)) (Blk.mk 34 true [Value.int .i64 5, Value.int .i64 row, Value.int .i64 col, Value.int .i64 n, Value.string t]) ?_
  refine md 4 (.pointer (some ⟨2, 0, none⟩)) (Blk.mk 30 true [Value.slice none 0 0, Value.slice none 0 0, Value.int .i64 0, Value.int .i64 0]) ?_
  refine WpOps.nil (thenK_at (Wp.seq (Wp.text ?_)))
  refine kp 14 (.agg #[Value.iface 9 (Value.iface (List.length (mkR 1 C f)) (Value.iface x (Value.agg (List.toArray (List.map Value.string (mkR 1 C f)))))), Value.iface 9 (Value.iface (List.length (mkR 1 C g)) (Value.iface y (Value.agg (List.toArray (List.map Value.string (mkR 1 C g)))))), Value.int .i64 i, Value.int .i64 j]) ?_
  refine cl 15 68 [Value.agg #[Value.iface 9 (Value.iface (List.length (mkR 1 C f)) (Value.iface x (Value.agg (List.toArray (List.map Value.string (mkR 1 C f)))))), Value.iface 9 (Value.iface (List.length (mkR 1 C g)) (Value.iface y (Value.agg (List.toArray (List.map Value.string (mkR 1 C g)))))), Value.int .i64 i, Value.int .i64 j]] ?_
  refine WpCall.lent [] (c1) (by decide) trivial (by kernel_rfl) (Value.agg (List.toArray (List.map (unC [3, 4]) (Array.toList #[Value.slice (some (Addr.mk 0 0 none)) 1 1, Value.slice (some (Addr.mk 1 0 none)) 1 1, Value.int IntKind.i64 i, Value.int IntKind.i64 j])))) ([Blk.mk 9 true [Value.string ((fun i => ByteArray.mk (List.toArray (List.map (f i) (List.range C)))) 0)], Blk.mk 9 true [Value.string ((fun i => ByteArray.mk (List.toArray (List.map (g i) (List.range C)))) 0)]]) (.cons (by kernel_rfl) (.cons (by kernel_rfl) .nil)) (by kernel_rfl) (Heap.alloc (Heap.alloc (Heap.alloc (Heap.alloc (Heap.alloc Heap.none (Blk.mk 30 true [Value.iface 9 (Value.iface (List.length (mkR 1 C f)) (Value.iface x (Value.agg (List.toArray (List.map Value.string (mkR 1 C f)))))), Value.iface 9 (Value.iface (List.length (mkR 1 C g)) (Value.iface y (Value.agg (List.toArray (List.map Value.string (mkR 1 C g)))))), Value.int IntKind.i64 i, Value.int IntKind.i64 j])) (Blk.mk 34 true [Value.int IntKind.i64 5, Value.int IntKind.i64 row, Value.int IntKind.i64 col, Value.int IntKind.i64 n, Value.string t])) (Blk.mk 30 true [Value.slice none 0 0, Value.slice none 0 0, Value.int IntKind.i64 0, Value.int IntKind.i64 0])) (Blk.mk 9 true [Value.string ((fun i => ByteArray.mk (List.toArray (List.map (f i) (List.range C)))) 0)])) (Blk.mk 9 true [Value.string ((fun i => ByteArray.mk (List.toArray (List.map (g i) (List.range C)))) 0)])) (by kernel_rfl) ?_
  refine md 5 (.pointer (some ⟨5, 0, none⟩)) (Blk.mk 30 true [Value.slice none 0 0, Value.slice none 0 0, Value.int .i64 0, Value.int .i64 0]) ?_
  refine ld (.tuple #[]) (5) (Blk.mk 30 true [Value.slice (some (Addr.mk (List.getD [3, 4] 0 0) 0 none)) 1 1, Value.slice (some (Addr.mk (List.getD [3, 4] 1 0) 0 none)) 1 1, Value.int .i64 i, Value.int .i64 j]) ?_
  refine WpOps.nil (thenK_at (Wp.seq ?_))
  refine Wp.region (by kernel_rfl) ?_
  refine kp 16 (.pointer (some ⟨0, 0, none⟩)) ?_
  refine kp 17 (.iface 9 (Value.iface (List.length (mkR 1 C f)) (Value.iface x (Value.agg (List.toArray (List.map Value.string (mkR 1 C f))))))) ?_
  refine kp 18 (.int IntKind.i64 (↑(List.length (mkR 1 C f)) : Int)) ?_
  refine kp 19 (.pointer (some ⟨0, 0, none⟩)) ?_
  refine kp 20 (.iface 9 (Value.iface (List.length (mkR 1 C f)) (Value.iface x (Value.agg (List.toArray (List.map Value.string (mkR 1 C f))))))) ?_
  refine kp 21 (.iface 9 (Value.iface 0 (Value.agg (List.toArray (List.map Value.string (mkR 1 C f)))))) ?_ (hop := fun _ => o_indexI (e := 9) (size := 1) (a := 0) l1)
  refine kp 22 (.string ((fun i => ByteArray.mk (List.toArray (List.map (f i) (List.range C)))) 0)) ?_
  refine kp 23 (.int IntKind.i64 (↑(ByteArray.size ((fun i => ByteArray.mk (List.toArray (List.map (f i) (List.range C)))) 0)) : Int)) ?_
  refine kp 6 (.int IntKind.i64 (↑(List.length (mkR 1 C f)) : Int)) ?_
  refine kp 7 (.int IntKind.i64 (↑(ByteArray.size ((fun i => ByteArray.mk (List.toArray (List.map (f i) (List.range C)))) 0)) : Int)) ?_
  refine WpOps.nil (thenK_at (Wp.seq (Wp.seq (Wp.text ?_))))
  refine kp 24 (.pointer (some ⟨1, 0, none⟩)) ?_
  refine kp 25 (.int IntKind.i64 5) ?_
  refine WpOps.nil (thenK_at (Wp.block (Wp.seq (Wp.text ?_))))
  refine kp 27 (.bool false) ?_
  refine kp 26 (.bool false) ?_
  refine WpOps.nil (thenK_at (off' (Wp.seq (Wp.text ?_))))
  refine kp 35 (.bool false) ?_
  refine kp 34 (.bool false) ?_
  refine WpOps.nil (thenK_at (off' (Wp.seq (Wp.text ?_))))
  refine kp 95 (.bool false) ?_
  refine kp 94 (.bool false) ?_
  refine WpOps.nil (thenK_at (off' (Wp.seq (Wp.text ?_))))
  refine kp 108 (.bool false) ?_
  refine kp 107 (.bool false) ?_
  refine WpOps.nil (thenK_at (off' (Wp.seq (Wp.text ?_))))
  refine kp 113 (.bool true) ?_
  refine kp 112 (.bool true) ?_
  refine WpOps.nil (thenK_at (on' (Wp.seq (Wp.text ?_))))
  refine kp 114 (.int IntKind.i64 (↑(ByteArray.size ((fun i => ByteArray.mk (List.toArray (List.map (f i) (List.range C)))) 0)) : Int)) ?_
  refine fr 115 46 [Value.int .i64 1, Value.int .i64 (↑(ByteArray.size ((fun i => ByteArray.mk (List.toArray (List.map (f i) (List.range C)))) 0)) : Int)] ?_
  refine WpFun.of (c2) ?_
  refine cg 11 (.pointer (some ⟨6, 0, none⟩)) (Heap.alloc (Heap.set (Heap.alloc (Heap.alloc (Heap.alloc (Heap.alloc (Heap.alloc (Heap.alloc Heap.none (Blk.mk 30 true [Value.iface 9 (Value.iface (List.length (mkR 1 C f)) (Value.iface x (Value.agg (List.toArray (List.map Value.string (mkR 1 C f)))))), Value.iface 9 (Value.iface (List.length (mkR 1 C g)) (Value.iface y (Value.agg (List.toArray (List.map Value.string (mkR 1 C g)))))), Value.int .i64 i, Value.int .i64 j])) (Blk.mk 34 true [Value.int .i64 5, Value.int .i64 row, Value.int .i64 col, Value.int .i64 n, Value.string t])) (Blk.mk 30 true [Value.slice none 0 0, Value.slice none 0 0, Value.int .i64 0, Value.int .i64 0])) (Blk.mk 9 true [Value.string ((fun i => ByteArray.mk (List.toArray (List.map (f i) (List.range C)))) 0)])) (Blk.mk 9 true [Value.string ((fun i => ByteArray.mk (List.toArray (List.map (g i) (List.range C)))) 0)])) (Blk.mk 30 true [Value.slice none 0 0, Value.slice none 0 0, Value.int .i64 0, Value.int .i64 0])) 5 (some (Blk.mk 30 true [Value.slice (some ⟨3, 0, none⟩) 1 1, Value.slice (some ⟨4, 0, none⟩) 1 1, Value.int .i64 i, Value.int .i64 j]))) (Blk.mk 30 true [Value.slice none 0 0, Value.slice none 0 0, Value.int .i64 0, Value.int .i64 0])) ?_
  refine ld (.tuple #[]) (6) (Blk.mk 30 true [Value.iface 9 (Value.iface 1 (Value.iface 0 (Value.agg #[Value.string (fillS 32 C)]))), Value.iface 9 (Value.iface 1 (Value.iface 0 (Value.agg #[Value.string (fillS 48 C)]))), Value.int .i64 0, Value.int .i64 0]) ?_
  refine WpOps.nil (thenK_at (Wp.seq ?_))
  refine Wp.regionD [(0, 9), (4, 9)] [[0, 1, 2, 3, 4, 5, 6, 7, 8, 9, 10, 11, 12], [0, 1, 2, 3, 5, 6, 7, 8, 9, 4, 10, 11, 12], [1, 2, 3, 5, 6, 7, 8, 9, 0, 4, 10, 11, 12]] (by kernel_rfl) (by kernel_rfl) [(4, .pointer (some ⟨0, 0, none⟩)), (5, .pointer (some ⟨1, 0, none⟩)), (11, .pointer (some ⟨4, 0, none⟩))] [⟨30, true, [.slice none 0 0, .slice none 0 0, .int .i64 0, .int .i64 0]⟩, ⟨30, true, [.slice (some ⟨2, 0, none⟩) 1 1, .slice (some ⟨3, 0, none⟩) 1 1, .int .i64 i, .int .i64 j]⟩, sB (mkR 1 C (upF 1 f 32)), sB (mkR 1 C g), ⟨30, true, [FS 9 1 0 #[.string (fillS 32 C)], FS 9 1 0 #[.string (fillS 48 C)], .int .i64 0, .int .i64 0]⟩] (allC ?_ (allC ?_ (all1 ?_))) ?_
  rotate_right
  · have fl3 := strs_flat (mkR 1 C (upF 1 f 32))
    have fl4 := strs_flat (mkR 1 C (upF 1 g 48))
    unfold sB
    refine thenK_at ?_
    refine Wp.regionD [(0, 9), (4, 9)] [[0, 1, 2, 3, 4, 5, 6, 7, 8, 9, 10, 11, 12], [0, 1, 2, 3, 5, 6, 7, 8, 9, 4, 10, 11, 12], [1, 2, 3, 5, 6, 7, 8, 9, 0, 4, 10, 11, 12]] (by kernel_rfl) (by kernel_rfl) [(4, .pointer (some ⟨0, 0, none⟩)), (5, .pointer (some ⟨1, 0, none⟩)), (11, .pointer (some ⟨4, 0, none⟩))] [⟨30, true, [.slice none 0 0, .slice none 0 0, .int .i64 0, .int .i64 0]⟩, ⟨30, true, [.slice (some ⟨2, 0, none⟩) 1 1, .slice (some ⟨3, 0, none⟩) 1 1, .int .i64 i, .int .i64 j]⟩, sB (mkR 1 C (upF 1 f 32)), sB (mkR 1 C (upF 1 g 48)), ⟨30, true, [FS 9 1 0 #[.string (fillS 32 C)], FS 9 1 0 #[.string (fillS 48 C)], .int .i64 0, .int .i64 0]⟩] (allC ?_ (allC ?_ (all1 ?_))) ?_
    rotate_right
    · unfold sB
      refine blockK_norm (thenK_at (Wp.seq (Wp.text ?_)))
      refine kp 174 (.agg #[Value.slice (some ⟨2, 0, none⟩) 1 1, Value.slice (some ⟨3, 0, none⟩) 1 1, Value.int .i64 i, Value.int .i64 j]) ?_
      refine ld (.tuple #[]) (0) (Blk.mk 30 true [Value.slice (some ⟨2, 0, none⟩) 1 1, Value.slice (some ⟨3, 0, none⟩) 1 1, Value.int .i64 i, Value.int .i64 j]) ?_
      refine WpOps.nil (thenK_at (Wp.ret ?_))
      refine endK_retn [Value.agg #[Value.slice (some (Addr.mk 2 0 none)) 1 1, Value.slice (some (Addr.mk 3 0 none)) 1 1, Value.int IntKind.i64 i, Value.int IntKind.i64 j]] (Value.agg #[Value.slice (some (Addr.mk 2 0 none)) 1 1, Value.slice (some (Addr.mk 3 0 none)) 1 1, Value.int IntKind.i64 i, Value.int IntKind.i64 j]) (by kernel_rfl) (by kernel_rfl) ?_
      exact ice_dv (mkR 1 C (upF 1 f 32)) (mkR 1 C (upF 1 g 48)) i j mkR_len.symm mkR_len.symm (by kernel_rfl) (by kernel_rfl)
    · refine md 128 (.slice (some ⟨5, 0, none⟩) 0 0) (Blk.mk 9 true []) ?_
      refine kp 129 (.pointer (some ⟨1, 1, none⟩)) ?_
      refine kp 130 (.slice (some ⟨3, 0, none⟩) 1 1) ?_
      refine kp 131 (.slice (some ⟨3, 1, none⟩) 0 0) ?_
      refine kp 132 (.slice (some ⟨5, 0, none⟩) 0 0) ?_
      refine kp 133 (.pointer (some ⟨4, 1, none⟩)) ?_
      refine kp 134 (.iface 9 (Value.iface 1 (Value.iface 0 (Value.agg #[Value.string (fillS 48 C)])))) ?_
      refine kp 135 (.iface 9 (Value.iface 0 (Value.agg #[Value.string (fillS 48 C)]))) ?_
      refine kp 136 (.string (fillS 48 C)) ?_
      refine md 137 (.slice (some ⟨6, 0, none⟩) 1 1) (Blk.mk 9 true [Value.string (fillS 48 C)]) ?_
      refine ra 138 (.slice (some ⟨7, 0, none⟩) 1 1) (5) (Blk.mk 9 true [Value.string (fillS 48 C)]) ?_
      refine kp 139 (.pointer (some ⟨1, 1, none⟩)) ?_
      refine ld (.tuple #[]) (1) (Blk.mk 30 true [Value.slice (some ⟨2, 0, none⟩) 1 1, Value.slice (some ⟨7, 0, none⟩) 1 1, Value.int .i64 i, Value.int .i64 j]) ?_
      refine WpOps.nil ?_
      refine ⟨by kernel_rfl, ?_⟩
      exact View.of [0, 1, 2, 7, 4] [⟨30, true, [.slice none 0 0, .slice none 0 0, .int .i64 0, .int .i64 0]⟩, ⟨30, true, [.slice (some ⟨2, 0, none⟩) 1 1, .slice (some ⟨3, 0, none⟩) 1 1, .int .i64 i, .int .i64 j]⟩, sB (mkR 1 C (upF 1 f 32)), sB (mkR 1 C (upF 1 g 48)), ⟨30, true, [FS 9 1 0 #[.string (fillS 32 C)], FS 9 1 0 #[.string (fillS 48 C)], .int .i64 0, .int .i64 0]⟩] _ (by decide) rfl ⟨⟨_, by kernel_rfl, CellsOk.eq rfl rfl⟩, ⟨[.slice (some ⟨2, 0, none⟩) 1 1, .slice (some ⟨7, 0, none⟩) 1 1, .int .i64 i, .int .i64 j], by kernel_rfl, ⟨by kernel_rfl, by kernel_rfl⟩⟩, ⟨_, by kernel_rfl, CellsOk.eq rfl fl3⟩, ⟨_, by kernel_rfl, CellsOk.eq (up_eqc (Nat.le_refl 1) g 48) (strs_flat _)⟩, ⟨_, by kernel_rfl, CellsOk.eq rfl rfl⟩, trivial⟩ ⟨⟨by kernel_rfl, rfl⟩, ⟨by kernel_rfl, rfl⟩, ⟨by kernel_rfl, rfl⟩, trivial⟩
    · refine md 128 (.slice (some ⟨5, 0, none⟩) 0 0) (Blk.mk 9 true []) ?_
      refine kp 129 (.pointer (some ⟨1, 1, none⟩)) ?_
      refine kp 130 (.slice (some ⟨3, 0, none⟩) 1 1) ?_
      refine kp 131 (.slice (some ⟨3, 1, none⟩) 0 0) ?_
      refine kp 133 (.pointer (some ⟨4, 1, none⟩)) ?_
      refine kp 134 (.iface 9 (Value.iface 1 (Value.iface 0 (Value.agg #[Value.string (fillS 48 C)])))) ?_
      refine kp 135 (.iface 9 (Value.iface 0 (Value.agg #[Value.string (fillS 48 C)]))) ?_
      refine kp 136 (.string (fillS 48 C)) ?_
      refine md 137 (.slice (some ⟨6, 0, none⟩) 1 1) (Blk.mk 9 true [Value.string (fillS 48 C)]) ?_
      refine kp 132 (.slice (some ⟨5, 0, none⟩) 0 0) ?_
      refine ra 138 (.slice (some ⟨7, 0, none⟩) 1 1) (5) (Blk.mk 9 true [Value.string (fillS 48 C)]) ?_
      refine kp 139 (.pointer (some ⟨1, 1, none⟩)) ?_
      refine ld (.tuple #[]) (1) (Blk.mk 30 true [Value.slice (some ⟨2, 0, none⟩) 1 1, Value.slice (some ⟨7, 0, none⟩) 1 1, Value.int .i64 i, Value.int .i64 j]) ?_
      refine WpOps.nil ?_
      refine ⟨by kernel_rfl, ?_⟩
      exact View.of [0, 1, 2, 7, 4] [⟨30, true, [.slice none 0 0, .slice none 0 0, .int .i64 0, .int .i64 0]⟩, ⟨30, true, [.slice (some ⟨2, 0, none⟩) 1 1, .slice (some ⟨3, 0, none⟩) 1 1, .int .i64 i, .int .i64 j]⟩, sB (mkR 1 C (upF 1 f 32)), sB (mkR 1 C (upF 1 g 48)), ⟨30, true, [FS 9 1 0 #[.string (fillS 32 C)], FS 9 1 0 #[.string (fillS 48 C)], .int .i64 0, .int .i64 0]⟩] _ (by decide) rfl ⟨⟨_, by kernel_rfl, CellsOk.eq rfl rfl⟩, ⟨[.slice (some ⟨2, 0, none⟩) 1 1, .slice (some ⟨7, 0, none⟩) 1 1, .int .i64 i, .int .i64 j], by kernel_rfl, ⟨by kernel_rfl, by kernel_rfl⟩⟩, ⟨_, by kernel_rfl, CellsOk.eq rfl fl3⟩, ⟨_, by kernel_rfl, CellsOk.eq (up_eqc (Nat.le_refl 1) g 48) (strs_flat _)⟩, ⟨_, by kernel_rfl, CellsOk.eq rfl rfl⟩, trivial⟩ ⟨⟨by kernel_rfl, rfl⟩, ⟨by kernel_rfl, rfl⟩, ⟨by kernel_rfl, rfl⟩, trivial⟩
    · refine kp 129 (.pointer (some ⟨1, 1, none⟩)) ?_
      refine kp 130 (.slice (some ⟨3, 0, none⟩) 1 1) ?_
      refine kp 131 (.slice (some ⟨3, 1, none⟩) 0 0) ?_
      refine kp 133 (.pointer (some ⟨4, 1, none⟩)) ?_
      refine kp 134 (.iface 9 (Value.iface 1 (Value.iface 0 (Value.agg #[Value.string (fillS 48 C)])))) ?_
      refine kp 135 (.iface 9 (Value.iface 0 (Value.agg #[Value.string (fillS 48 C)]))) ?_
      refine kp 136 (.string (fillS 48 C)) ?_
      refine md 137 (.slice (some ⟨5, 0, none⟩) 1 1) (Blk.mk 9 true [Value.string (fillS 48 C)]) ?_
      refine md 128 (.slice (some ⟨6, 0, none⟩) 0 0) (Blk.mk 9 true []) ?_
      refine kp 132 (.slice (some ⟨6, 0, none⟩) 0 0) ?_
      refine ra 138 (.slice (some ⟨7, 0, none⟩) 1 1) (6) (Blk.mk 9 true [Value.string (fillS 48 C)]) ?_
      refine kp 139 (.pointer (some ⟨1, 1, none⟩)) ?_
      refine ld (.tuple #[]) (1) (Blk.mk 30 true [Value.slice (some ⟨2, 0, none⟩) 1 1, Value.slice (some ⟨7, 0, none⟩) 1 1, Value.int .i64 i, Value.int .i64 j]) ?_
      refine WpOps.nil ?_
      refine ⟨by kernel_rfl, ?_⟩
      exact View.of [0, 1, 2, 7, 4] [⟨30, true, [.slice none 0 0, .slice none 0 0, .int .i64 0, .int .i64 0]⟩, ⟨30, true, [.slice (some ⟨2, 0, none⟩) 1 1, .slice (some ⟨3, 0, none⟩) 1 1, .int .i64 i, .int .i64 j]⟩, sB (mkR 1 C (upF 1 f 32)), sB (mkR 1 C (upF 1 g 48)), ⟨30, true, [FS 9 1 0 #[.string (fillS 32 C)], FS 9 1 0 #[.string (fillS 48 C)], .int .i64 0, .int .i64 0]⟩] _ (by decide) rfl ⟨⟨_, by kernel_rfl, CellsOk.eq rfl rfl⟩, ⟨[.slice (some ⟨2, 0, none⟩) 1 1, .slice (some ⟨7, 0, none⟩) 1 1, .int .i64 i, .int .i64 j], by kernel_rfl, ⟨by kernel_rfl, by kernel_rfl⟩⟩, ⟨_, by kernel_rfl, CellsOk.eq rfl fl3⟩, ⟨_, by kernel_rfl, CellsOk.eq (up_eqc (Nat.le_refl 1) g 48) (strs_flat _)⟩, ⟨_, by kernel_rfl, CellsOk.eq rfl rfl⟩, trivial⟩ ⟨⟨by kernel_rfl, rfl⟩, ⟨by kernel_rfl, rfl⟩, ⟨by kernel_rfl, rfl⟩, trivial⟩
  · refine md 116 (.slice (some ⟨7, 0, none⟩) 0 0) (Blk.mk 9 true []) ?_
    refine kp 117 (.pointer (some ⟨5, 0, none⟩)) ?_
    refine kp 118 (.slice (some ⟨3, 0, none⟩) 1 1) ?_
    refine kp 119 (.slice (some ⟨3, 1, none⟩) 0 0) ?_
    refine kp 120 (.slice (some ⟨7, 0, none⟩) 0 0) ?_
    refine kp 121 (.pointer (some ⟨6, 0, none⟩)) ?_
    refine kp 122 (.iface 9 (Value.iface 1 (Value.iface 0 (Value.agg #[Value.string (fillS 32 C)])))) ?_
    refine kp 123 (.iface 9 (Value.iface 0 (Value.agg #[Value.string (fillS 32 C)]))) ?_
    refine kp 124 (.string (fillS 32 C)) ?_
    refine md 125 (.slice (some ⟨8, 0, none⟩) 1 1) (Blk.mk 9 true [Value.string (fillS 32 C)]) ?_
    refine ra 126 (.slice (some ⟨9, 0, none⟩) 1 1) (7) (Blk.mk 9 true [Value.string (fillS 32 C)]) ?_
    refine kp 127 (.pointer (some ⟨5, 0, none⟩)) ?_
    refine ld (.tuple #[]) (5) (Blk.mk 30 true [Value.slice (some ⟨9, 0, none⟩) 1 1, Value.slice (some ⟨4, 0, none⟩) 1 1, Value.int .i64 i, Value.int .i64 j]) ?_
    refine WpOps.nil ?_
    refine ⟨by kernel_rfl, ?_⟩
    exact View.of [2, 5, 9, 4, 6] [⟨30, true, [.slice none 0 0, .slice none 0 0, .int .i64 0, .int .i64 0]⟩, ⟨30, true, [.slice (some ⟨2, 0, none⟩) 1 1, .slice (some ⟨3, 0, none⟩) 1 1, .int .i64 i, .int .i64 j]⟩, sB (mkR 1 C (upF 1 f 32)), sB (mkR 1 C g), ⟨30, true, [FS 9 1 0 #[.string (fillS 32 C)], FS 9 1 0 #[.string (fillS 48 C)], .int .i64 0, .int .i64 0]⟩] _ (by decide) rfl ⟨⟨_, by kernel_rfl, CellsOk.eq rfl rfl⟩, ⟨[.slice (some ⟨9, 0, none⟩) 1 1, .slice (some ⟨4, 0, none⟩) 1 1, .int .i64 i, .int .i64 j], by kernel_rfl, ⟨by kernel_rfl, by kernel_rfl⟩⟩, ⟨_, by kernel_rfl, CellsOk.eq (up_eqc (Nat.le_refl 1) f 32) (strs_flat _)⟩, ⟨_, by kernel_rfl, CellsOk.eq rfl fl2⟩, ⟨_, by kernel_rfl, CellsOk.eq rfl rfl⟩, trivial⟩ ⟨⟨by kernel_rfl, rfl⟩, ⟨by kernel_rfl, rfl⟩, ⟨by kernel_rfl, rfl⟩, trivial⟩
  · refine md 116 (.slice (some ⟨7, 0, none⟩) 0 0) (Blk.mk 9 true []) ?_
    refine kp 117 (.pointer (some ⟨5, 0, none⟩)) ?_
    refine kp 118 (.slice (some ⟨3, 0, none⟩) 1 1) ?_
    refine kp 119 (.slice (some ⟨3, 1, none⟩) 0 0) ?_
    refine kp 121 (.pointer (some ⟨6, 0, none⟩)) ?_
    refine kp 122 (.iface 9 (Value.iface 1 (Value.iface 0 (Value.agg #[Value.string (fillS 32 C)])))) ?_
    refine kp 123 (.iface 9 (Value.iface 0 (Value.agg #[Value.string (fillS 32 C)]))) ?_
    refine kp 124 (.string (fillS 32 C)) ?_
    refine md 125 (.slice (some ⟨8, 0, none⟩) 1 1) (Blk.mk 9 true [Value.string (fillS 32 C)]) ?_
    refine kp 120 (.slice (some ⟨7, 0, none⟩) 0 0) ?_
    refine ra 126 (.slice (some ⟨9, 0, none⟩) 1 1) (7) (Blk.mk 9 true [Value.string (fillS 32 C)]) ?_
    refine kp 127 (.pointer (some ⟨5, 0, none⟩)) ?_
    refine ld (.tuple #[]) (5) (Blk.mk 30 true [Value.slice (some ⟨9, 0, none⟩) 1 1, Value.slice (some ⟨4, 0, none⟩) 1 1, Value.int .i64 i, Value.int .i64 j]) ?_
    refine WpOps.nil ?_
    refine ⟨by kernel_rfl, ?_⟩
    exact View.of [2, 5, 9, 4, 6] [⟨30, true, [.slice none 0 0, .slice none 0 0, .int .i64 0, .int .i64 0]⟩, ⟨30, true, [.slice (some ⟨2, 0, none⟩) 1 1, .slice (some ⟨3, 0, none⟩) 1 1, .int .i64 i, .int .i64 j]⟩, sB (mkR 1 C (upF 1 f 32)), sB (mkR 1 C g), ⟨30, true, [FS 9 1 0 #[.string (fillS 32 C)], FS 9 1 0 #[.string (fillS 48 C)], .int .i64 0, .int .i64 0]⟩] _ (by decide) rfl ⟨⟨_, by kernel_rfl, CellsOk.eq rfl rfl⟩, ⟨[.slice (some ⟨9, 0, none⟩) 1 1, .slice (some ⟨4, 0, none⟩) 1 1, .int .i64 i, .int .i64 j], by kernel_rfl, ⟨by kernel_rfl, by kernel_rfl⟩⟩, ⟨_, by kernel_rfl, CellsOk.eq (up_eqc (Nat.le_refl 1) f 32) (strs_flat _)⟩, ⟨_, by kernel_rfl, CellsOk.eq rfl fl2⟩, ⟨_, by kernel_rfl, CellsOk.eq rfl rfl⟩, trivial⟩ ⟨⟨by kernel_rfl, rfl⟩, ⟨by kernel_rfl, rfl⟩, ⟨by kernel_rfl, rfl⟩, trivial⟩
  · refine kp 117 (.pointer (some ⟨5, 0, none⟩)) ?_
    refine kp 118 (.slice (some ⟨3, 0, none⟩) 1 1) ?_
    refine kp 119 (.slice (some ⟨3, 1, none⟩) 0 0) ?_
    refine kp 121 (.pointer (some ⟨6, 0, none⟩)) ?_
    refine kp 122 (.iface 9 (Value.iface 1 (Value.iface 0 (Value.agg #[Value.string (fillS 32 C)])))) ?_
    refine kp 123 (.iface 9 (Value.iface 0 (Value.agg #[Value.string (fillS 32 C)]))) ?_
    refine kp 124 (.string (fillS 32 C)) ?_
    refine md 125 (.slice (some ⟨7, 0, none⟩) 1 1) (Blk.mk 9 true [Value.string (fillS 32 C)]) ?_
    refine md 116 (.slice (some ⟨8, 0, none⟩) 0 0) (Blk.mk 9 true []) ?_
    refine kp 120 (.slice (some ⟨8, 0, none⟩) 0 0) ?_
    refine ra 126 (.slice (some ⟨9, 0, none⟩) 1 1) (8) (Blk.mk 9 true [Value.string (fillS 32 C)]) ?_
    refine kp 127 (.pointer (some ⟨5, 0, none⟩)) ?_
    refine ld (.tuple #[]) (5) (Blk.mk 30 true [Value.slice (some ⟨9, 0, none⟩) 1 1, Value.slice (some ⟨4, 0, none⟩) 1 1, Value.int .i64 i, Value.int .i64 j]) ?_
    refine WpOps.nil ?_
    refine ⟨by kernel_rfl, ?_⟩
    exact View.of [2, 5, 9, 4, 6] [⟨30, true, [.slice none 0 0, .slice none 0 0, .int .i64 0, .int .i64 0]⟩, ⟨30, true, [.slice (some ⟨2, 0, none⟩) 1 1, .slice (some ⟨3, 0, none⟩) 1 1, .int .i64 i, .int .i64 j]⟩, sB (mkR 1 C (upF 1 f 32)), sB (mkR 1 C g), ⟨30, true, [FS 9 1 0 #[.string (fillS 32 C)], FS 9 1 0 #[.string (fillS 48 C)], .int .i64 0, .int .i64 0]⟩] _ (by decide) rfl ⟨⟨_, by kernel_rfl, CellsOk.eq rfl rfl⟩, ⟨[.slice (some ⟨9, 0, none⟩) 1 1, .slice (some ⟨4, 0, none⟩) 1 1, .int .i64 i, .int .i64 j], by kernel_rfl, ⟨by kernel_rfl, by kernel_rfl⟩⟩, ⟨_, by kernel_rfl, CellsOk.eq (up_eqc (Nat.le_refl 1) f 32) (strs_flat _)⟩, ⟨_, by kernel_rfl, CellsOk.eq rfl fl2⟩, ⟨_, by kernel_rfl, CellsOk.eq rfl rfl⟩, trivial⟩ ⟨⟨by kernel_rfl, rfl⟩, ⟨by kernel_rfl, rfl⟩, ⟨by kernel_rfl, rfl⟩, trivial⟩
theorem rapply5 (x y R C : Nat) (f g : Nat → Nat → UInt8) (i j row col n : Int) (t : ByteArray) (h0 : 1 ≤ R) (hR : R ≤ 40) (hC : C ≤ 80) : Fun E 42 [dv x y (mkR R C f) (mkR R C g) i j, uv 5 row col n t] (dv 0 0 (mkR R C (upF R f 32)) (mkR R C (upF R g 48)) i j) := by
  by_cases h : R = 1
  · subst h
    exact rapply5b x y C f g i j row col n t hC
  · obtain ⟨S, rfl⟩ : ∃ S, R = S + 2 := ⟨R - 2, by omega⟩
    exact rapply5a x y S C f g i j row col n t hR hC
end Go.Proofs.Ytlejgfeoffhjoaa.D
